import Derived.Test.YtbamejikafhenaaDoorEvAN
import Derived.Test.YtbamejikafhenaaDoorEvAO
import Derived.Test.YtbamejikafhenaaDoorEvAP
import Derived.Test.YtbamejikafhenaaDoorEvAQ
open Go Go.Proofs.YtbamejikafhenaaDoor.Ev
namespace Go.Proofs.YtbamejikafhenaaDoor.Tz
attribute [local irreducible] mem
set_option linter.unusedSimpArgs false
attribute [local congr] di aJ bM dh dm bj de cm aW cf cn c9 bh bK bH aX eJ cg cb cj bm bk aK aO eG bG cq bL bO bD bF ck c7 bl bJ dd bE bI bC cN
theorem c46 {s : List UInt8} {hp : Hp} {k : AV → Hp → aa} (h : s.length ≤ 4294967280) : au mem false r46 (.nd (S s) .lf (.nd (.x 3 .lf 47 0 0) .lf .lf)) hp k = k (I (ixN s)) hp := eO (.nd (aV _) (.nd (a90 47) .lf)) (fD _).goes (mV ⟨.empty, aeD h⟩) hp k
noncomputable def eU (s w : List UInt8) : Int × Bool × List UInt8 :=
  let n := bQ s
  let r := qU (s.take n)
  (r.1, (Lib.hasPrefix (s.drop n) w && decide (r.2 = 0)), Lib.trimPrefix (s.drop n) w)
theorem ahx {s w : List UInt8} {b : Nat} {p : Bool} {hp : Hp} (hs : s.length ≤ 100000) (hw : w.length ≤ 100000) (hb : b < 16777215) (hpr : hp.pr = []) (hat : hp.at b = yF p (S s)) :
    r22.f (.nd (.ptr b 0) .lf (.nd (S w) .lf .lf)) hp = .val (.bB (.nd (I (eU s w).1) .lf (.nd (.bool (eU s w).2.1) .lf .lf)) 2) (hp.dS b (yF (bp p true) (S (eU s w).2.2))) := by
  have hn := lV s
  have h1 := adA (s.take (bQ s))
  have e1 : (List.take (bQ s) s).length ≤ 100000 := by rw [List.length_take]; omega
  have e2 : (List.drop (bQ s) s).length ≤ 100000 := by rw [List.length_drop]; omega
  have hfin : ∀ P : Bool, (if P = true then (AV.bool (decide (((qU (s.take (bQ s))).2 : Int) = 0))) else AV.bool false) = AV.bool (P && decide ((qU (s.take (bQ s))).2 = 0)) := fun P => by
    cases P with
    | false => rfl
    | true =>
      show AV.bool (decide (((qU (s.take (bQ s))).2 : Int) = 0)) = AV.bool (true && decide ((qU (s.take (bQ s))).2 = 0))
      congr 1
      rw [Bool.true_and, decide_eq_decide]; omega
  unfold eU
  dsimp only
  rw [← hfin]
  generalize hP : Lib.hasPrefix (s.drop (bQ s)) w = P
  by_cases hE : bQ s = s.length
  · have e4 : ixN s = -1 := by rw [wu, if_pos hE]
    have t1 : s.take (bQ s) = s := by rw [hE, List.take_length]
    have t2 : s.drop (bQ s) = [] := by rw [hE, List.drop_length]
    rw [t1] at h1 e1
    rw [t2] at hP
    rw [t1, t2]
    clear hfin
    cases P <;> simp +contextual (maxSteps := 2000000) (disch := (first | omega | (simp only [Y2] <;> omega) | ((repeat' (first | exact ai | apply ab | apply aj | refine ah (by omega) ?_ ?_)) <;> (simp (disch := (first | omega | (simp only [Y5] <;> omega))) only [Y4, Nat.reduceAdd, Nat.reduceEqDiff, reduceIte, *])) | (simp (disch := omega) only [Y4, Nat.reduceAdd, Nat.reduceEqDiff, reduceIte]; done) | exact aN _ | exact aU _ | exact aT _ | exact aS _ | exact True.intro | rfl)) only [Y1, Y3, t22, oy, Int.reduceLT, Int.reduceLE, Int.reduceEq, Int.reduceNeg, Int.reduceToNat, bx, br, Nat.reduceAdd, Nat.reduceEqDiff, reduceIte, Nat.reduceLeDiff, Nat.reduceSub, c46, c48, c49, hat, e4, apply_ite a4x, acg, hP, List.take_length, List.drop_length]
  · have e4 : ixN s = (bQ s : Int) := by rw [wu, if_neg hE]
    clear hfin
    cases P
    · simp +contextual (maxSteps := 2000000) (disch := (first | omega | (simp only [Y2] <;> omega) | ((repeat' (first | exact ai | apply ab | apply aj | refine ah (by omega) ?_ ?_)) <;> (simp (disch := (first | omega | (simp only [Y5] <;> omega))) only [Y4, Nat.reduceAdd, Nat.reduceEqDiff, reduceIte, *])) | (simp (disch := omega) only [Y4, Nat.reduceAdd, Nat.reduceEqDiff, reduceIte]; done) | exact aN _ | exact aU _ | exact aT _ | exact aS _ | exact True.intro | rfl)) only [Y1, Y3, t22, oy, Int.reduceLT, Int.reduceLE, Int.reduceEq, Int.reduceNeg, Int.reduceToNat, bx, br, Nat.reduceAdd, Nat.reduceEqDiff, reduceIte, Nat.reduceLeDiff, Nat.reduceSub, c46, c48, c49, hat, e4, apply_ite a4x, acg, hP]
      rw [if_neg (by omega)]
    · simp +contextual (maxSteps := 2000000) (disch := (first | omega | (simp only [Y2] <;> omega) | ((repeat' (first | exact ai | apply ab | apply aj | refine ah (by omega) ?_ ?_)) <;> (simp (disch := (first | omega | (simp only [Y5] <;> omega))) only [Y4, Nat.reduceAdd, Nat.reduceEqDiff, reduceIte, *])) | (simp (disch := omega) only [Y4, Nat.reduceAdd, Nat.reduceEqDiff, reduceIte]; done) | exact aN _ | exact aU _ | exact aT _ | exact aS _ | exact True.intro | rfl)) only [Y1, Y3, t22, oy, Int.reduceLT, Int.reduceLE, Int.reduceEq, Int.reduceNeg, Int.reduceToNat, bx, br, Nat.reduceAdd, Nat.reduceEqDiff, reduceIte, Nat.reduceLeDiff, Nat.reduceSub, c46, c48, c49, hat, e4, apply_ite a4x, acg, hP]
      rw [if_neg (by omega)]
theorem c22 {s w : List UInt8} {b : Nat} {p : Bool} {hp : Hp} {k : AV → Hp → aa} (hs : s.length ≤ 100000) (hw : w.length ≤ 100000) (hb : b < 16777215) (hpr : hp.pr = []) (hat : hp.at b = yF p (S s)) : au mem false r22 (.nd (.ptr b 0) .lf (.nd (S w) .lf .lf)) hp k = k (.bB (.nd (I (eU s w).1) .lf (.nd (.bool (eU s w).2.1) .lf .lf)) 2) (hp.dS b (yF (bp p true) (S (eU s w).2.2))) := a8O (ahx hs hw hb hpr hat) k
open Classical in
noncomputable def zp (B : bX) (b : Nat) (w : List UInt8) (hp : Hp) (k : AV → Hp → aa) : aa :=
  if h : ∃ p s, s.length ≤ 100000 ∧ B = yF p (S s) then k (.bB (.nd (I (eU h.choose_spec.choose w).1) .lf (.nd (.bool (eU h.choose_spec.choose w).2.1) .lf .lf)) 2) (hp.dS b (yF (bp h.choose true) (S (eU h.choose_spec.choose w).2.2)))
  else au mem false r22 (.nd (.ptr b 0) .lf (.nd (S w) .lf .lf)) hp k
theorem c22e {w : List UInt8} {b : Nat} {hp : Hp} {k : AV → Hp → aa} (h : (w.length ≤ 100000 ∧ b < 16777215)) (hpr : hp.pr = []) : au mem false r22 (.nd (.ptr b 0) .lf (.nd (S w) .lf .lf)) hp k = zp (hp.at b) b w hp k := by
  unfold zp
  split
  · rename_i h2
    exact c22 h2.choose_spec.choose_spec.1 h.1 h.2 hpr h2.choose_spec.choose_spec.2
  · rfl
theorem S_inj {a b : List UInt8} (h : S a = S b) : a = b := by
  unfold S at h
  injection h with h1 h2
  exact pB a b h2 h1
theorem a2E {p : Bool} {s w : List UInt8} {b : Nat} {hp : Hp} {k : AV → Hp → aa} (hs : s.length ≤ 100000) : zp (yF p (S s)) b w hp k = k (.bB (.nd (I (eU s w).1) .lf (.nd (.bool (decide ((eU s w).2.1 = true))) .lf .lf)) 2) (hp.dS b (yF (bp p true) (S (eU s w).2.2))) := by
  have h : ∃ p' s', s'.length ≤ 100000 ∧ yF p (S s) = yF p' (S s') := ⟨p, s, hs, rfl⟩
  unfold zp
  rw [dif_pos h]
  have e := h.choose_spec.choose_spec.2
  injection e with _ e1 _ _ e2
  injection e2 with e3
  have e4 := S_inj e3
  rw [← e4, ← e1, Bool.decide_eq_true]
theorem a2W {B B' : bX} {b : Nat} {w : List UInt8} {hp : Hp} {k : AV → Hp → aa} (h : mk B = B') : zp B b w hp k = zp B' b w hp k := by rw [mk_eq] at h; rw [h]
theorem lg (s w : List UInt8) : (eU s w).2.2.length ≤ s.length := by
  unfold eU
  dsimp only
  unfold Lib.trimPrefix
  split
  · rw [List.length_drop, List.length_drop]; omega
  · rw [List.length_drop]; omega
def jj : Bool → List UInt8 → Nat
  | _, [] => 0
  | first, c :: r => if bT c.toNat = true ∨ (first = true ∧ c.toNat = 45) then jj false r + 1 else 0
theorem a6T : ∀ (f : Bool) (l : List UInt8), jj f l ≤ l.length
  | _, [] => Nat.le_refl _
  | f, c :: r => by
    unfold jj
    split
    · have := a6T false r; simp only [List.length_cons]; omega
    · exact Nat.zero_le _
theorem aiJ {s : List UInt8} {n : Nat} (hs : s.length ≤ 100000) (hn0 : n ≤ s.length) {x1 x2 x4 : AV} {hp : Hp} : (oz).run .lf (.n (S s) x1 x2 (I n) x4 .uu .uu .uu .e) hp = if n < s.length ∧ (bT (s.getD n 0).toNat = true ∨ (decide (n = 0) = true ∧ (s.getD n 0).toNat = 45)) then .ok (.n (S s) x1 x2 (I (n + 1 : Nat)) x4 .uu .uu .uu .e) hp else .exit 0 (.n (S s) x1 x2 (I n) x4 .uu .uu .uu .e) hp := by
  by_cases hn : n < s.length
  · have ed : bT (s.getD n 0).toNat = true ↔ 48 ≤ (s.getD n 0).toNat ∧ (s.getD n 0).toNat ≤ 57 := by
      unfold bT; rw [Bool.and_eq_true, bA, bA]
    simp +contextual (maxSteps := 2000000) (disch := (first | omega | (simp only [Y2] <;> omega) | ((repeat' (first | exact ai | apply ab | apply aj | refine ah (by omega) ?_ ?_)) <;> (simp (disch := (first | omega | (simp only [Y5] <;> omega))) only [Y4, Nat.reduceAdd, Nat.reduceEqDiff, reduceIte, *])) | (simp (disch := omega) only [Y4, Nat.reduceAdd, Nat.reduceEqDiff, reduceIte]; done) | exact aN _ | exact aU _ | exact aT _ | exact aS _ | exact True.intro | rfl)) only [Y1, Y3, uJ, kM, qN, lG, lJ, Int.reduceLT, Int.reduceLE, Int.reduceEq, Int.reduceNeg, Int.reduceToNat, bx, br, Nat.reduceAdd, Nat.reduceEqDiff, reduceIte, Nat.reduceLeDiff, Nat.reduceSub]
    simp only [ed, decide_eq_true_eq]
    by_cases h0 : n = 0
    · subst h0
      repeat' (refine qG (fun _ => ?_) (fun _ => ?_))
      all_goals first
        | (exfalso; omega)
        | (rw [if_pos (by omega)]; rfl)
        | (rw [if_neg (by omega)]; rfl)
    · repeat' (refine qG (fun _ => ?_) (fun _ => ?_))
      all_goals first
        | (exfalso; omega)
        | (rw [if_pos (by omega)]; rfl)
        | (rw [if_neg (by omega)])
  · rw [if_neg (fun h => hn h.1)]
    simp +contextual (maxSteps := 2000000) (disch := (first | omega | (simp only [Y2] <;> omega) | ((repeat' (first | exact ai | apply ab | apply aj | refine ah (by omega) ?_ ?_)) <;> (simp (disch := (first | omega | (simp only [Y5] <;> omega))) only [Y4, Nat.reduceAdd, Nat.reduceEqDiff, reduceIte, *])) | (simp (disch := omega) only [Y4, Nat.reduceAdd, Nat.reduceEqDiff, reduceIte]; done) | exact aN _ | exact aU _ | exact aT _ | exact aS _ | exact True.intro | rfl)) only [Y1, Y3, uJ, kM, qN, lG, lJ, Int.reduceLT, Int.reduceLE, Int.reduceEq, Int.reduceNeg, Int.reduceToNat, bx, br, Nat.reduceAdd, Nat.reduceEqDiff, reduceIte, Nat.reduceLeDiff, Nat.reduceSub]
    rw [if_neg (by omega)]
theorem ab9 {s : List UInt8} (hs : s.length ≤ 100000) (x1 x2 x4 : AV) (hp : Hp) : ∀ (f n : Nat) (fuel : Nat), s.length - n = f → n ≤ s.length → f < fuel → aD oz fuel (.n (S s) x1 x2 (I n) x4 .uu .uu .uu .e) hp = .exit 0 (.n (S s) x1 x2 (I ((n + jj (decide (n = 0)) (s.drop n) : Nat) : Int)) x4 .uu .uu .uu .e) hp
  | f, n, 0, _, _, h => absurd h (Nat.not_lt_zero _)
  | f, n, fuel + 1, hf, hn, hfu => by
    have hb := aiJ (x1 := x1) (x2 := x2) (x4 := x4) (hp := hp) hs hn
    by_cases hl : n < s.length
    · have hd : s.drop n = s.getD n 0 :: s.drop (n + 1) := by
        rw [List.drop_eq_getElem_cons hl]; simp [List.getD, hl]
      have e : jj (decide (n = 0)) (s.drop n) = if bT (s.getD n 0).toNat = true ∨ (decide (n = 0) = true ∧ (s.getD n 0).toNat = 45) then jj false (s.drop (n + 1)) + 1 else 0 := by rw [hd]; rfl
      by_cases hc : bT (s.getD n 0).toNat = true ∨ (decide (n = 0) = true ∧ (s.getD n 0).toNat = 45)
      · rw [if_pos ⟨hl, hc⟩] at hb
        rw [cY hb, ab9 hs x1 x2 x4 hp (f - 1) (n + 1) fuel (by omega) (by omega) (by omega), e, if_pos hc]
        rw [show decide (n + 1 = 0) = false from rfl, show n + 1 + jj false (s.drop (n + 1)) = n + (jj false (s.drop (n + 1)) + 1) by omega]
      · rw [if_neg (fun h => hc h.2)] at hb
        rw [cE hb, e, if_neg hc]; rfl
    · rw [if_neg (fun h => hl h.1)] at hb
      have hn2 : n = s.length := by omega
      rw [cE hb, hn2, List.drop_length]; rfl
noncomputable def gZ (s : List UInt8) : Int × List UInt8 :=
  let n := jj true s
  let r := qU (s.take n)
  (if r.2 = 0 ∧ -1 ≤ r.1 ∧ r.1 ≤ 100000 then r.1 else 0, s.drop n)
theorem agF (s : List UInt8) : -9223372036854775808 ≤ (qU s).1 ∧ (qU s).1 < 9223372036854775808 := by
  have h1 := (jD (s.drop 1) 9223372036854775808).1
  have h2 := (jD s 9223372036854775807).1
  unfold qU
  dsimp only
  split
  · decide
  · split
    · split
      · split
        · decide
        · show -9223372036854775808 ≤ -(_ : Int) ∧ -(_ : Int) < 9223372036854775808
          omega
      · show -9223372036854775808 ≤ (0 : Int) ∧ (0 : Int) < 9223372036854775808
        decide
    · show -9223372036854775808 ≤ ((_ : Nat) : Int) ∧ ((_ : Nat) : Int) < 9223372036854775808
      omega
theorem ajt {s : List UInt8} (hs : s.length ≤ 100000) : db (r27.f (.nd (S s) .lf .lf) .empty) = some (.bB (.nd (I (gZ s).1) .lf (.nd (S (gZ s).2) .lf .lf)) 2) := by
  have hn := a6T true s
  have h1 := adA (s.take (jj true s))
  have h2 := agF (s.take (jj true s))
  have e1 : (List.take (jj true s) s).length ≤ 100000 := by rw [List.length_take]; omega
  simp +contextual (maxSteps := 2000000) (disch := (first | omega | (simp only [Y2] <;> omega) | ((repeat' (first | exact ai | apply ab | apply aj | refine ah (by omega) ?_ ?_)) <;> (simp (disch := (first | omega | (simp only [Y5] <;> omega))) only [Y4, Nat.reduceAdd, Nat.reduceEqDiff, reduceIte, *])) | (simp (disch := omega) only [Y4, Nat.reduceAdd, Nat.reduceEqDiff, reduceIte]; done) | exact aN _ | exact aU _ | exact aT _ | exact aS _ | exact True.intro | rfl)) only [Y1, Y3, t27, a4B, Int.reduceLT, Int.reduceLE, Int.reduceEq, Int.reduceNeg, Int.reduceToNat, bx, br, Nat.reduceAdd, Nat.reduceEqDiff, reduceIte, Nat.reduceLeDiff, Nat.reduceSub]
  have hl := ab9 hs (I 0) (S []) .uu .empty s.length 0 1000000 rfl (Nat.zero_le _) (by omega)
  rw [Nat.zero_add, List.drop_zero] at hl
  have hl' : aD oz 1000000 (.n (S s) (I 0) (S []) (I 0) .uu .uu .uu .uu .e) .empty = _ := hl
  rw [hl', a5W]
  unfold gZ
  dsimp only [decide_true]
  simp +contextual (maxSteps := 2000000) (disch := (first | omega | (simp only [Y2] <;> omega) | ((repeat' (first | exact ai | apply ab | apply aj | refine ah (by omega) ?_ ?_)) <;> (simp (disch := (first | omega | (simp only [Y5] <;> omega))) only [Y4, Nat.reduceAdd, Nat.reduceEqDiff, reduceIte, *])) | (simp (disch := omega) only [Y4, Nat.reduceAdd, Nat.reduceEqDiff, reduceIte]; done) | exact aN _ | exact aU _ | exact aT _ | exact aS _ | exact True.intro | rfl)) only [Y1, Y3, kM, qN, lG, lJ, Int.reduceLT, Int.reduceLE, Int.reduceEq, Int.reduceNeg, Int.reduceToNat, bx, br, Nat.reduceAdd, Nat.reduceEqDiff, reduceIte, Nat.reduceLeDiff, Nat.reduceSub, c54, apply_ite ad1, apply_ite db, ret27]
  repeat' (refine qG (fun _ => ?_) (fun _ => ?_))
  all_goals first
    | (rw [if_pos (by omega)])
    | (rw [if_neg (by omega)])
theorem c27 {s : List UInt8} {hp : Hp} {k : AV → Hp → aa} (h : s.length ≤ 100000) : au mem false r27 (.nd (S s) .lf .lf) hp k = k (.bB (.nd (I (gZ s).1) .lf (.nd (S (gZ s).2) .lf .lf)) 2) hp := eO (.nd (aV _) .lf) (gB (gG _) (oA _)) (ajt h) hp k
theorem oq (s : List UInt8) : (gZ s).2.length ≤ s.length := by
  show (s.drop (jj true s)).length ≤ s.length
  rw [List.length_drop]; omega
theorem qH (s : List UInt8) : -1 ≤ (gZ s).1 ∧ (gZ s).1 ≤ 100000 := by
  unfold gZ
  dsimp only
  split
  · rename_i h; exact ⟨h.2.1, h.2.2⟩
  · decide
theorem qh (s w : List UInt8) : -9223372036854775808 ≤ (eU s w).1 ∧ (eU s w).1 < 9223372036854775808 := agF _
theorem ajv {s : List UInt8} {n : Nat} (hs : s.length ≤ 100000) (hn : n ≤ 100000) : db (r28.f (.nd (S s) .lf (.nd (I n) .lf .lf)) .empty) = some (S (s.drop n)) := by
  by_cases h : s.length < n
  · simp +contextual (maxSteps := 2000000) (disch := (first | omega | (simp only [Y2] <;> omega) | ((repeat' (first | exact ai | apply ab | apply aj | refine ah (by omega) ?_ ?_)) <;> (simp (disch := (first | omega | (simp only [Y5] <;> omega))) only [Y4, Nat.reduceAdd, Nat.reduceEqDiff, reduceIte, *])) | (simp (disch := omega) only [Y4, Nat.reduceAdd, Nat.reduceEqDiff, reduceIte]; done) | exact aN _ | exact aU _ | exact aT _ | exact aS _ | exact True.intro | rfl)) only [Y1, Y3, t28, Int.reduceLT, Int.reduceLE, Int.reduceEq, Int.reduceNeg, Int.reduceToNat, bx, br, Nat.reduceAdd, Nat.reduceEqDiff, reduceIte, Nat.reduceLeDiff, Nat.reduceSub, apply_ite a7z, apply_ite db, ag3]
    rw [if_pos (by omega), List.drop_eq_nil_of_le (by omega)]
  · simp +contextual (maxSteps := 2000000) (disch := (first | omega | (simp only [Y2] <;> omega) | ((repeat' (first | exact ai | apply ab | apply aj | refine ah (by omega) ?_ ?_)) <;> (simp (disch := (first | omega | (simp only [Y5] <;> omega))) only [Y4, Nat.reduceAdd, Nat.reduceEqDiff, reduceIte, *])) | (simp (disch := omega) only [Y4, Nat.reduceAdd, Nat.reduceEqDiff, reduceIte]; done) | exact aN _ | exact aU _ | exact aT _ | exact aS _ | exact True.intro | rfl)) only [Y1, Y3, t28, a4L, Int.reduceLT, Int.reduceLE, Int.reduceEq, Int.reduceNeg, Int.reduceToNat, bx, br, Nat.reduceAdd, Nat.reduceEqDiff, reduceIte, Nat.reduceLeDiff, Nat.reduceSub, apply_ite a7z, apply_ite db, ag3]
    rw [if_neg (by omega)]
theorem c28 {s : List UInt8} {n : Nat} {hp : Hp} {k : AV → Hp → aa} (h : s.length ≤ 100000 ∧ n ≤ 100000) : au mem false r28 (.nd (S s) .lf (.nd (I n) .lf .lf)) hp k = k (S (s.drop n)) hp := eO (.nd (aV _) (.nd (fD _) .lf)) (aV _).goes (ajv h.1 h.2) hp k
end Go.Proofs.YtbamejikafhenaaDoor.Tz
namespace Go.Proofs.YtbamejikafhenaaDoor.Ev
section
variable {a b c v : AV} {r : Row} {k : Row → aa}
theorem zk (h : One v) : vn 0 1 (.nd a .lf r) v k = k (.nd v .lf r) := by
  show when (Nat.beq 1 1) (lP v fun c _ => k (.nd c .lf r)) _ = _
  rw [cQ (cu 1), gU h]
theorem zh (h : One v) : vn 1 1 (.nd a .lf (.nd b .lf r)) v k = k (.nd a .lf (.nd v .lf r)) := by
  show when (Nat.beq 1 1) (lP v fun c _ => k (.nd a .lf (.nd c .lf r))) _ = _
  rw [cQ (cu 1), gU h]
theorem a0d (h : One v) : vn 2 1 (.nd a .lf (.nd b .lf (.nd c .lf r))) v k = k (.nd a .lf (.nd b .lf (.nd v .lf r))) := by
  show when (Nat.beq 1 1) (lP v fun x _ => k (.nd a .lf (.nd b .lf (.nd x .lf r)))) _ = _
  rw [cQ (cu 1), gU h]
end
theorem a9I {a b c : AV} : AV.agg (.nd a .lf (.nd b .lf (.nd c .lf .lf))) 3 = AV.agg (aw [a, b, c]) 3 := nd rfl
theorem fK {o s : Nat} {l : Row} {v v' : AV} {k : Row → aa} (h : mk v = v') : vn o s l v k = vn o s l v' k := by rw [mk_eq] at h; rw [h]
end Go.Proofs.YtbamejikafhenaaDoor.Ev
namespace Go.Proofs.YtbamejikafhenaaDoor.Tz
set_option linter.defProp false
def Y7 := And.intro @cV (And.intro @bZ (And.intro @cB (And.intro @cL (And.intro @zk (And.intro @zh (And.intro @a0d (@a9I)))))))
end Go.Proofs.YtbamejikafhenaaDoor.Tz
namespace Go.Proofs.YtbamejikafhenaaDoor.Ev
def kj (z : Nat) (h : Hp) (a : AV) (l : List AV) : Prop := (a = .x 8 .lf 0 0 0 ∧ l = []) ∨ ∃ c t, a = .ms c 0 l.length z ∧ c < h.nx ∧ h.at c = .row true true z (l.length * z) t ∧ ∀ j, j < l.length → t.at j = l.getD j .uu
def PlE (z : Nat) (v : AV) : Prop := (z = 1 ∧ One v ∧ v.pl = true) ∨ (2 ≤ z ∧ ∃ l, v = .agg (aw l) z ∧ l.length = z ∧ iH l = true)
section
variable {M : Mem} (ok : oK M)
include ok
theorem ahR {z : Nat} {v : AV} (hv : PlE z v) (r0 : Row) (k : Row → Bool → aa) : wrV M z z r0 0 v k = k (dB .uu r0 0 v) true := by
  rcases hv with ⟨rfl, h1, h2⟩ | ⟨h2, l, rfl, hl, hp⟩
  · show lP v (fun c p => when (Nat.beq 1 1) (M.rs.f r0 0 c fun t => k t p) _) = _
    rw [gU h1, cQ (cu 1), ok.rs (by decide), h2]
  · show when (Nat.beq z 1) _ (ar (Nat.beq z z) (ar (Nat.ble 1 z) (eM (aw l) fun p => when (bp (Nat.beq z z) (Nat.beq (0 % z) 0)) (M.rs.f r0 (0 / z) (.agg (aw l) z) fun t => k t p) _))) = _
    rw [fB (jb (by omega)), aB (cu z), aB (dY (by omega)), fW, Nat.zero_mod, cu, cQ (show bp true (Nat.beq 0 0) = true from rfl), Nat.zero_div, ok.rs (by decide), hp]
theorem abo (r0 : Row) {h : Hp} {a : AV} {l : List AV} {z : Nat} {v : AV} (hz : 1 ≤ z ∧ z ≤ 100) (hv : PlE z v) (ha : kj z h a l) (hnx : h.nx + 2 < 16777215) (hpr : h.pr = []) (hl : l.length + 1 ≤ 100000) :
    ∃ a' h', kj z h' a' (l ++ [v]) ∧ h'.nx = h.nx + 2 ∧ h'.pr = [] ∧ (∀ c, c < h.nx → (∀ n, a ≠ .ms c 0 n z) → h'.at c = h.at c) ∧ a' = .ms (h.nx + 1) 0 (l.length + 1) z ∧
      ∀ K : AV → Hp → aa, lL M (aY M) z r0 z 1 [(0, fun k => k v)] h (fun v h => cR M (aY M) z a v h K) = K a' h' := by
  have hb : ∀ K, lL M (aY M) z r0 z 1 [(0, fun k => k v)] h K = K (.ms h.nx 0 1 z) (h.add (.row true true z z (dB .uu r0 0 v))) := fun K => by
    show wrV M z z r0 0 v (fun t b => (aY M).f h (.row true (bp true b) z z t) fun id hp => K (.ms id 0 1 z) hp) = _
    rw [ahR ok hv, je ok (by omega)]; rfl
  have hq : (h.add (.row true true z z (dB .uu r0 0 v))).at h.nx = .row true true z z (dB .uu r0 0 v) := add_same (by omega)
  have hu0 : (dB .uu r0 0 v : Row).at 0 = v := by rw [vJ (by decide), if_pos rfl]
  have hs : ∀ K, my M z (.ms h.nx 0 1 z) (h.add (.row true true z z (dB .uu r0 0 v))) K = K (dB .uu r0 0 v) 0 1 true := fun K => by
    show ar (Nat.beq z z) ((h.add (.row true true z z (dB .uu r0 0 v))).use M h.nx (0 + 1 * z) fun _ fl x _ t => ar (Nat.beq x z) (ar (Nat.beq (0 % z) 0) (aG (0 / z) fun e => K t e 1 fl))) = _
    rw [aB (cu z), yd ok (by omega) hq (by omega), aB (cu z), Nat.zero_mod, aB (cu 0), az, Nat.zero_div]
  rcases ha with ⟨rfl, rfl⟩ | ⟨c, t, rfl, hc, hct, ht⟩
  · refine ⟨.ms (h.nx + 1) 0 1 z, (h.add (.row true true z z (dB .uu r0 0 v))).add (.row true true z (1 * z) (dB .uu r0 0 v)), .inr ⟨h.nx + 1, dB .uu r0 0 v, rfl, by rw [cZ, cZ]; omega, cV (by rw [cZ]; omega) (by rw [cZ]), fun j hj => by
        have : j = 0 := by simpa using hj
        subst this; exact hu0⟩, rfl, hpr, fun c hc _ => by rw [bZ (by rw [cZ]; omega) (by rw [cZ]; omega), bZ (by omega) (by omega)], rfl, fun K => ?_⟩
    rw [hb]
    unfold cR
    rw [hs]
    show ar (Nat.beq 8 8 || Nat.beq 8 6) (when (Nat.beq 1 0) (K (.x 8 .lf 0 0 0) (h.add (.row true true z z (dB .uu r0 0 v)))) (tH M (aY M) z (dB .uu r0 0 v) 0 1 true (h.add (.row true true z z (dB .uu r0 0 v))) K)) = _
    rw [aB (b := Nat.beq 8 8 || Nat.beq 8 6) rfl, fB (b := Nat.beq 1 0) rfl]
    unfold tH
    rw [aB (b := Nat.ble 1 1073741824) rfl, az, cQ (b := Nat.beq 0 0) rfl, je ok (by rw [cZ]; omega)]
    rfl
  · obtain ⟨r, h1, h2⟩ := a27 ok 1 (dB .uu r0 0 v) 0 t l.length (by omega) (by omega)
    have hne : c ≠ h.nx := by omega
    refine ⟨.ms (h.nx + 1) 0 (l.length + 1) z, ((h.add (.row true true z z (dB .uu r0 0 v))).dS c .dead).add (.row true true z ((l.length + 1) * z) r), .inr ⟨h.nx + 1, r, by rw [List.length_append]; rfl, by rw [cZ, eu, cZ]; omega, by rw [cV (by rw [eu, cZ]; omega) (by rw [eu, cZ]), List.length_append]; rfl, fun j hj => ?_⟩, rfl, hpr, fun c' hc' hn => ?_, rfl, fun K => ?_⟩
    · rw [List.length_append] at hj
      rw [h1]
      by_cases h : l.length ≤ j
      · have hj2 : j = l.length := by simp only [List.length_cons, List.length_nil] at hj; omega
        rw [if_pos ⟨h, by simpa using hj⟩, hj2, Nat.sub_self, Nat.add_zero, hu0]
        simp [List.getD]
      · rw [if_neg (by omega), ht j (by omega)]
        simp only [List.getD_eq_getElem?_getD]
        rw [List.getElem?_append_left (by omega)]
    · have hcc : c' ≠ c := fun e => hn l.length (by rw [e])
      rw [bZ (by rw [eu, cZ]; omega) (by rw [eu, cZ]; omega), cL (by omega) hcc, bZ (by omega) (by omega)]
    · rw [hb]
      unfold cR
      rw [hs]
      have hct' : (h.add (.row true true z z (dB .uu r0 0 v))).at c = .row true true z (l.length * z) t := by rw [bZ (by omega) hne]; exact hct
      let H : Hp := h.add (.row true true z z (dB .uu r0 0 v))
      show ar (Nat.beq z z) (when (Nat.beq 1 0) (K (.ms c 0 l.length z) H) (H.own M c (0 + l.length * z) fun fl x _ t => ar (Nat.beq x z) (ar (Nat.beq (0 % z) 0) (when (Nat.beq 0 0) (jy M (aY M) z c l.length fl t (dB .uu r0 0 v) 0 1 true H K) ((cp M l.length).f t (0 / z) .lf 0 fun r => jy M (aY M) z c l.length fl r (dB .uu r0 0 v) 0 1 true H K))))) = _
      rw [aB (cu z), fB (b := Nat.beq 1 0) rfl, acp ok (by omega) hct' (by omega) hpr, aB (cu z), Nat.zero_mod, aB (cu 0), cQ (b := Nat.beq 0 0) rfl]
      unfold jy
      rw [h2, gJ ok (by omega), az]
      show ar (Nat.ble (l.length + 1) 1073741824) (aG ((l.length + 1) * z) fun s => (aY M).f ((h.add (.row true true z z (dB .uu r0 0 v))).dS c .dead) (.row true (bp true true) z s r) fun id hp => K (.ms id 0 (l.length + 1) z) hp) = _
      rw [aB (dY (by omega)), az, je ok (by rw [eu, cZ]; omega)]
      rfl
end
theorem a6C (r0 : Row) {h : Hp} {a : AV} {l : List AV} {z : Nat} {v : AV} (hz : 1 ≤ z ∧ z ≤ 100) (hv : PlE z v) (ha : kj z h a l) (hnx : h.nx + 2 < 16777215) (hpr : h.pr = []) (hl : l.length + 1 ≤ 100000) :
    ∃ a' h', kj z h' a' (l ++ [v]) ∧ h'.nx = h.nx + 2 ∧ h'.pr = [] ∧ (∀ c, c < h.nx → (∀ n, a ≠ .ms c 0 n z) → h'.at c = h.at c) ∧ a' = .ms (h.nx + 1) 0 (l.length + 1) z ∧
      ∀ K : AV → Hp → aa, lL mem (aY mem) z r0 z 1 [(0, fun k => k v)] h (fun v h => cR mem (aY mem) z a v h K) = K a' h' := abo dD r0 hz hv ha hnx hpr hl
def a9g (z : Nat) (hp : Hp) (a' : AV) (hp' : Hp) (l : List AV) : Prop := kj z hp' a' l ∧ hp.nx ≤ hp'.nx ∧ hp'.nx ≤ hp.nx + 1 ∧ hp'.pr = hp.pr ∧ (∀ c, c < hp.nx → hp'.at c = hp.at c) ∧ (∀ c n, a' = .ms c 0 n z → c = hp.nx)
theorem ae2 {M : Mem} {m : Nat} {l : Row} {n : Nat} {hc hp : Hp} {b : Bool} {k : AV → Hp → Hp → Bool → aa} : (imp M (m + 1)).f (.bB l n) hc hp b k = il (imp M m) l hc hp b (fun r hc hp b => k (.bB r n) hc hp b) := rfl
theorem aeg {z : IK} {v : AV} {l : Row} {hc hp : Hp} {b : Bool} {k : Row → Hp → Hp → Bool → aa} : il z (.nd v .lf l) hc hp b k = z.f v hc hp b fun v hc hp b => il z l hc hp b fun r hc hp b => k (.nd v .lf r) hc hp b := rfl
section
variable {M : Mem} (ok : oK M)
include ok
theorem a0f {m z : Nat} {hc hp : Hp} {a : AV} {l : List AV} (ha : kj z hc a l) (hnc : hc.nx ≤ 1000000) (hnx : hp.nx ≤ 1000000) :
    ∃ a' hp', a9g z hp a' hp' l ∧ ∃ hc', ∀ k, (imp M (m + 2)).f a hc hp false k = k a' hc' hp' false := by
  rcases ha with ⟨rfl, rfl⟩ | ⟨c, t, rfl, hcl, hct, ht⟩
  · exact ⟨.x 8 .lf 0 0 0, hp, ⟨.inl ⟨rfl, rfl⟩, Nat.le_refl _, Nat.le_succ _, rfl, fun _ _ => rfl, fun _ _ e => (by cases e)⟩, hc, fun _ => rfl⟩
  · refine ⟨.ms hp.nx 0 l.length z, hp.add (.row true true z (l.length * z) t), ⟨.inr ⟨hp.nx, t, rfl, by rw [cZ]; omega, add_same (by omega), ht⟩, by rw [cZ]; omega, by rw [cZ]; omega, rfl, fun c hc => bZ (by omega) (by omega), fun c n e => by cases e; rfl⟩, hc.dS c (.fwd hp.nx), fun k => ?_⟩
    show ib M (imp M (m + 1)) c hc hp false (fun id hc hp b => k (.ms id 0 l.length z) hc hp b) = _
    unfold ib
    rw [Go.Proofs.YtbamejikafhenaaDoor.Ev.get_at ok (by omega), hct]
    show hc.put M c (.fwd hp.nx) (fun hc => (aY M).f hp (.row true true z (l.length * z) t) fun id hp => k (.ms id 0 l.length z) hc hp false) = _
    rw [gJ ok (by omega), je ok (by omega)]
theorem a6n {F : bN} {r : Row} {hc hp : Hp} {a : AV} {l : List AV} {z : Nat} (hz : ∀ hp k, zl (pN M 24) r hp k = k r hp) (ha : kj z hc a l) (hnc : hc.nx ≤ 1000000) (hnx : hp.nx ≤ 1000000) (e : F.f r .empty = .val a hc) :
    ∃ a' hp', a9g z hp a' hp' l ∧ ∀ k, au M false F r hp k = k a' hp' := by
  obtain ⟨a', hp', h1, hc', h2⟩ := a0f ok (m := 22) ha hnc hnx
  refine ⟨a', hp', h1, fun k => ?_⟩
  show fh M hp r (fun a ho => eX M F a hp ho k) (fe F r hp k) = _
  unfold fh
  rw [hz]
  show eX M F r hp hp k = _
  unfold eX
  rw [e]
  show (imp M 24).f a hc hp false (fun v' _ hp' b => when b ((imp M 24).f a hc hp false fun v _ hp _ => k v hp) (k v' hp')) = _
  rw [h2]; rfl
theorem yh {F : bN} {r q : Row} {n : Nat} {hc hp : Hp} {a : AV} {l : List AV} {z : Nat} (hz : ∀ hp k, zl (pN M 24) r hp k = k r hp) (hq : ∀ hc hp b k, il (imp M 23) q hc hp b k = k q hc hp b) (ha : kj z hc a l) (hnc : hc.nx ≤ 1000000) (hnx : hp.nx ≤ 1000000) (e : F.f r .empty = .val (.bB (.nd a .lf q) n) hc) :
    ∃ a' hp', a9g z hp a' hp' l ∧ ∀ k, au M false F r hp k = k (.bB (.nd a' .lf q) n) hp' := by
  obtain ⟨a', hp', h1, hc', h2⟩ := a0f ok (m := 21) ha hnc hnx
  refine ⟨a', hp', h1, fun k => ?_⟩
  show fh M hp r (fun a ho => eX M F a hp ho k) (fe F r hp k) = _
  unfold fh
  rw [hz]
  show eX M F r hp hp k = _
  unfold eX
  rw [e]
  show (imp M 24).f (.bB (.nd a .lf q) n) hc hp false (fun v' _ hp' b => when b ((imp M 24).f (.bB (.nd a .lf q) n) hc hp false fun v _ hp _ => k v hp) (k v' hp')) = _
  generalize hG : (fun (v' : AV) (_ hp' : Hp) (b : Bool) => when b ((imp M 24).f (.bB (.nd a .lf q) n) hc hp false fun v _ hp _ => k v hp) (k v' hp')) = G
  rw [ae2 (m := 23), aeg, h2, hq, ← hG]; rfl
end
theorem a8a {l : List AV} (h : ∀ v ∈ l, GoL v) : ∀ hc hp b k, il (imp mem 23) (aw l) hc hp b k = k (aw l) hc hp b := by
  induction l with
  | nil => exact fun _ _ _ _ => rfl
  | cons v l ih =>
    intro hc hp b k
    show (imp mem 23).f v hc hp b (fun v hc hp b => il (imp mem 23) (aw l) hc hp b fun r hc hp b => k (.nd v .lf r) hc hp b) = _
    rw [h v (by simp), ih fun w hw => h w (by simp [hw])]
    rfl
theorem aa7 {F : bN} {r : Row} {hc : Hp} {a : AV} {l : List AV} {z : Nat} (hr : kK r) (ha : kj z hc a l) (hnc : hc.nx ≤ 1000000) (e : F.f r .empty = .val a hc) (hp : Hp) (hnx : hp.nx ≤ 1000000) :
    ∃ a' hp', a9g z hp a' hp' l ∧ ∀ k, au mem false F r hp k = k a' hp' := a6n dD (dA hr) ha hnc hnx e
theorem acZ {F : bN} {r : Row} {n : Nat} {hc : Hp} {a : AV} {l q : List AV} {z : Nat} (hr : kK r) (hq : ∀ v ∈ q, GoL v) (ha : kj z hc a l) (hnc : hc.nx ≤ 1000000) (e : F.f r .empty = .val (.bB (.nd a .lf (aw q)) n) hc) (hp : Hp) (hnx : hp.nx ≤ 1000000) :
    ∃ a' hp', a9g z hp a' hp' l ∧ ∀ k, au mem false F r hp k = k (.bB (.nd a' .lf (aw q)) n) hp' := yh dD (dA hr) (a8a hq) ha hnc hnx e
theorem aem {z : Nat} {h : Hp} {a : AV} {l : List AV} (ha : kj z h a l) {h' : Hp} {k : Nat → aa} : cz mem 1 a h' k = k l.length := by
  rcases ha with ⟨rfl, rfl⟩ | ⟨c, t, rfl, -, -, -⟩ <;> rfl
attribute [local irreducible] mem
def Fz (z : Nat) (a : AV) (l : List AV) : Prop := (a = .x 8 .lf 0 0 0 ∧ l = []) ∨ ∃ t, a = .vs t 0 l.length z ∧ ∀ j, j < l.length → t.at j = l.getD j .uu
def Elw (z : Nat) (h : Hp) (a : AV) (l : List AV) : Prop := (a = .x 8 .lf 0 0 0 ∧ l = []) ∨ ∃ c t w, a = .ms c 0 l.length z ∧ c < h.nx ∧ h.at c = .row w true z (l.length * z) t ∧ ∀ j, j < l.length → t.at j = l.getD j .uu
theorem ag9 {z : ZK} {v : AV} {l : Row} {hp : Hp} {k : Row → Hp → aa} : zl z (.nd v .lf l) hp k = z.f hp v fun v hp => zl z l hp fun r hp => k (.nd v .lf r) hp := rfl
theorem zl_lf {z : ZK} {hp : Hp} {k : Row → Hp → aa} : zl z .lf hp k = k .lf hp := rfl
section
variable {M : Mem} (ok : oK M)
include ok
theorem a0g : ∀ (l : List AV) (t : Row) (o : Nat), o + l.length < 16777215 → ∃ t', (∀ j, t'.at j = if o ≤ j ∧ j < o + l.length then l.getD (j - o) .uu else t.at j) ∧ ∀ k, (∀ v ∈ l, One v) → (nW M 1 l.length).f (aw l) t o k = k t'
  | [], t, o, _ => ⟨t, fun j => by rw [if_neg (by simp only [List.length_nil]; omega)], fun _ _ => rfl⟩
  | v :: l, t, o, h => by
    simp only [List.length_cons] at h
    obtain ⟨t', h1, h2⟩ := a0g l (dB .uu t o v) (o + 1) (by omega)
    refine ⟨t', fun j => ?_, fun k hv => ?_⟩
    · rw [h1, vJ (by omega)]
      simp only [List.length_cons]
      by_cases hj : o + 1 ≤ j ∧ j < o + 1 + l.length
      · rw [if_pos hj, if_pos (by omega), show j - o = (j - (o + 1)) + 1 by omega]; rfl
      · rw [if_neg hj]
        by_cases h0 : j = o
        · rw [if_pos h0, if_pos (by omega), h0, Nat.sub_self]; rfl
        · rw [if_neg h0, if_neg (by omega)]
    · show wrC M 1 t o v (fun t => (nW M 1 l.length).f (aw l) t (Nat.succ o) k) = _
      rw [show wrC M 1 t o v (fun t => (nW M 1 l.length).f (aw l) t (Nat.succ o) k) = M.rs.f t o v (fun t => (nW M 1 l.length).f (aw l) t (Nat.succ o) k) from rfl, ok.rs (by omega)]
      exact h2 k fun w hw => hv w (by simp [hw])
theorem a9O {rw' fl : Bool} {s o : Nat} {t : Row} {k : AV → aa} (h : o + 1 ≤ s ∧ o < 16777215) : ldC M (.row rw' fl 1 s t) o k = k (t.at o) := by
  show ar (Nat.ble (o + 1) s) (M.rg.f t o k) = _
  rw [aB (dY h.1), ok.rg h.2]
theorem a05 {z m : Nat} {h : Hp} {a : AV} {l : List AV} (ha : Elw z h a l) (hnx : h.nx ≤ 1000000) : ∃ a' h', Fz z a' l ∧ h'.nx = h.nx ∧ (∀ z' b m, Elw z' h b m → Elw z' h' b m) ∧ ∀ k, (pN M (m + 1)).f h a k = k a' h' := by
  rcases ha with ⟨rfl, rfl⟩ | ⟨c, t, w, rfl, hcl, hct, ht⟩
  · exact ⟨_, h, .inl ⟨rfl, rfl⟩, rfl, fun _ _ _ h => h, fun _ => rfl⟩
  · refine ⟨.vs t 0 l.length z, h.dS c (.row false true z (l.length * z) t), .inr ⟨t, rfl, ht⟩, rfl, fun z' b m hb => ?_, fun k => ?_⟩
    · rcases hb with ⟨rfl, rfl⟩ | ⟨c2, t2, w2, rfl, hcl2, hct2, ht2⟩
      · exact .inl ⟨rfl, rfl⟩
      · by_cases he : c2 = c
        · subst he
          rw [hct] at hct2
          injection hct2 with e1 e2 e3 e4 e5
          refine .inr ⟨c2, t2, false, rfl, hcl2, ?_, ht2⟩
          rw [br (by omega), if_pos rfl, e4, e3, e5]
        · refine .inr ⟨c2, t2, w2, rfl, hcl2, ?_, ht2⟩
          rw [br (by omega), if_neg he, hct2]
    · show h.use M c (0 + l.length * z) (fun _ fl x s t => ar (Nat.beq x z) (ar (Nat.beq (0 % z) 0) (h.put M c (.row false fl z s t) fun hp => when fl (aG (0 / z) fun e => k (.vs t e l.length z) hp) _))) = _
      rw [yd ok (by omega) hct (by omega), aB (cu z), Nat.zero_mod, aB (cu 0), gJ ok (by omega), cQ rfl, az, Nat.zero_div]
theorem a2p {F : bN} {hp : Hp} {a b : AV} {la lb : List AV} {z : Nat} {v : AV} (ha : Elw z hp a la) (hb : Elw z hp b lb) (hnx : hp.nx ≤ 1000000) (hv : ∀ hc hp b k, (imp M 24).f v hc hp b k = k v hc hp b) (e : ∀ a' b', Fz z a' la → Fz z b' lb → db (F.f (.nd a' .lf (.nd b' .lf .lf)) .empty) = some v) (k : AV → Hp → aa) : au M false F (.nd a .lf (.nd b .lf .lf)) hp k = k v hp := by
  obtain ⟨a', h1, f1, n1, w1, e1⟩ := a05 ok (m := 23) ha hnx
  obtain ⟨b', h2, f2, n2, w2, e2⟩ := a05 ok (m := 23) (w1 _ _ _ hb) (by omega)
  obtain ⟨hc, e3⟩ := sL (e a' b' f1 f2)
  show fh M hp (.nd a .lf (.nd b .lf .lf)) (fun a ho => eX M F a hp ho k) (fe F (.nd a .lf (.nd b .lf .lf)) hp k) = _
  unfold fh
  rw [ag9, e1, ag9, e2, zl_lf]
  show eX M F (.nd a' .lf (.nd b' .lf .lf)) hp h2 k = _
  unfold eX
  rw [e3]
  show (imp M 24).f v hc hp false (fun v' _ hp' b => when b ((imp M 24).f v hc h2 false fun v _ hp _ => k v hp) (k v' hp')) = _
  rw [hv]; rfl
end
theorem kj.w {z : Nat} {h : Hp} {a : AV} {l : List AV} (ha : kj z h a l) : Elw z h a l := by
  rcases ha with ⟨h1, h2⟩ | ⟨c, t, h1, h2, h3, h4⟩
  · exact .inl ⟨h1, h2⟩
  · exact .inr ⟨c, t, true, h1, h2, h3, h4⟩
theorem a9F {F : bN} {hp : Hp} {a b : AV} {la lb : List AV} {z : Nat} {v : AV} (ha : kj z hp a la) (hb : kj z hp b lb) (hnx : hp.nx ≤ 1000000) (hv : yx v) (e : ∀ a' b', Fz z a' la → Fz z b' lb → db (F.f (.nd a' .lf (.nd b' .lf .lf)) .empty) = some v) (k : AV → Hp → aa) : au mem false F (.nd a .lf (.nd b .lf .lf)) hp k = k v hp := a2p dD ha.w hb.w hnx hv e k
theorem kb {rw' fl : Bool} {s o : Nat} {t : Row} {k : AV → aa} (h : o + 1 ≤ s ∧ o < 16777215) : ldC mem (.row rw' fl 1 s t) o k = k (t.at o) := a9O dD h
theorem mL {z c n y : Nat} {i : Int} {k : AV → aa} (h : (0 ≤ i ∧ i < n) ∧ n < 9223372036854775808) : indexAddr z (.ms c 0 n y) (I i) k = k (.ptr c (i.toNat * z)) := by
  show fP (I i) n (fun j => aG (0 + j * z) fun p => k (.ptr c p)) = _
  rw [a03 h.1.1 h.1.2 h.2, az, Nat.zero_add]
theorem adH {z c n : Nat} {i : Int} {k : AV → aa} (h : (0 ≤ i ∧ i ≤ n) ∧ n < 9223372036854775808) : eS z (.ms c 0 n z) .none (.some (I i)) .none k = k (.ms c 0 i.toNat z) := by
  show ar (Nat.beq z z) (gY (I i) n fun h => when false (k (.x 6 .lf 0 0 0)) (aG (0 + 0 * z) fun o => aG (h - 0) fun n => k (.ms c o n z))) = _
  rw [aB (cu z), a0k h.1.1 h.1.2 h.2, fB rfl, az, az, Nat.zero_mul]; rfl
theorem iT (c : UInt8) : ∀ l, 1 ≤ (aR c l).length
  | [] => Nat.le_refl _
  | b :: l => by
    have ih := iT c l
    show 1 ≤ (Bool.rec (motive := fun _ => List (List UInt8)) (List.rec (motive := fun _ => List (List UInt8)) [[b]] (fun p r _ => (b :: p) :: r) (aR c l)) ([] :: aR c l) (Nat.beq b.toNat c.toNat)).length
    cases Nat.beq b.toNat c.toNat
    · cases h : aR c l with
      | nil => rw [h] at ih; exact absurd ih (by decide)
      | cons p r => exact Nat.succ_le_succ (Nat.zero_le _)
    · exact Nat.succ_le_succ (Nat.zero_le _)
theorem mB (c : UInt8) : ∀ l, (aR c l).length ≤ l.length + 1
  | [] => Nat.le_refl _
  | b :: l => by
    have ih := mB c l
    show (Bool.rec (motive := fun _ => List (List UInt8)) (List.rec (motive := fun _ => List (List UInt8)) [[b]] (fun p r _ => (b :: p) :: r) (aR c l)) ([] :: aR c l) (Nat.beq b.toNat c.toNat)).length ≤ _
    cases Nat.beq b.toNat c.toNat
    · cases h : aR c l with
      | nil => simp
      | cons p r => rw [h] at ih; simp only [List.length_cons] at ih ⊢; omega
    · simp only [List.length_cons]; omega
section
variable {M : Mem} (ok : oK M)
include ok
theorem aeV (ps : List (List UInt8)) (h : ps.length ≤ 1000000) : ∃ h, kj 1 h (.ms 0 0 ps.length 1) (ps.map S) ∧ h.nx = 1 ∧ (nW M 1 ps.length).f (aw (ps.map S)) .lf 0 (fun t => (aY M).f .empty (.row true true 1 ps.length t) fun id hp => .val (.ms id 0 ps.length 1) hp) = .val (.ms 0 0 ps.length 1) h := by
  obtain ⟨t', h1, h2⟩ := a0g ok (ps.map S) .lf 0 (by rw [List.length_map]; omega)
  rw [List.length_map] at h1 h2
  refine ⟨Hp.empty.add (.row true true 1 ps.length t'), .inr ⟨0, t', by rw [List.length_map], Nat.one_pos, ?_, fun j hj => ?_⟩, rfl, ?_⟩
  · rw [cV (show 0 < 16777215 by decide) rfl, List.length_map, Nat.mul_one]
  · rw [List.length_map] at hj
    rw [h1, if_pos (by omega)]; rfl
  · rw [h2 _ fun v hv => by
      obtain ⟨w, -, rfl⟩ := List.mem_map.1 hv
      exact True.intro]
    rw [je ok (show 0 < 16777215 by decide)]
end
theorem tm {s : List UInt8} {c : UInt8} (hs : s.length ≤ 100000) : ∃ h, kj 1 h (.ms 0 0 (aR c s).length 1) ((aR c s).map S) ∧ h.nx = 1 ∧ a1J.f (.nd (S s) .lf (.nd (S [c]) .lf .lf)) .empty = .val (.ms 0 0 (aR c s).length 1) h := by
  obtain ⟨h, h1, h2, h3⟩ := aeV dD (aR c s) (by have := mB c s; omega)
  refine ⟨h, h1, h2, Eq.trans ?_ h3⟩
  have e1 : vz s.length (aL s) = s := fQ s
  have e2 : (aL [c]).toUInt8 = c := by
    have : aL [c] = c.toNat := by simp [aL]
    rw [this]; exact UInt8.ofNat_toNat
  show ar (Nat.beq 1 1) (ar (Nat.ble s.length 4294967280) ((fun ps : List (List UInt8) => (nW mem 1 ps.length).f (aw (ps.map S)) .lf 0 (fun t => (aY mem).f .empty (.row true true 1 ps.length t) fun id hp => .val (.ms id 0 ps.length 1) hp)) (aR (aL [c]).toUInt8 (vz s.length (aL s))))) = _
  rw [e1, e2, aB (cu 1), aB (dY (by omega))]
end Go.Proofs.YtbamejikafhenaaDoor.Ev
namespace Go.Proofs.YtbamejikafhenaaDoor.Ev
theorem aca {M : Mem} (ok : oK M) {h : Hp} {n i : Nat} {l : List AV} (hn : n = l.length) (h2 : 2 ≤ l.length) (hb : h.rb + i < 16777215) (k : AV → Hp → aa) : cF M (jR M i) (.agg (aw l) n) n n h k = k (.ptr (h.rb + i) 0) (h.dS (h.rb + i) (Bx (iH l) l)) := by
  subst hn
  show when (Nat.beq l.length 1) _ (ar (Nat.beq l.length l.length) (eM (aw l) fun p => when (Nat.beq l.length l.length) ((jR M i).f h (.row true p l.length l.length (.nd (.agg (aw l) l.length) .lf .lf)) fun id hp => k (.ptr id 0) hp) _)) = _
  rw [fB (jb (by omega)), aB (cu _), fW, cu, cQ rfl, sm ok hb]
  rfl
theorem a1l {h : Hp} {n i : Nat} {l : List AV} (hn : n = l.length) (h2 : 2 ≤ l.length) (hb : h.rb + i < 16777215) (k : AV → Hp → aa) : cF mem (jR mem i) (.agg (aw l) n) n n h k = k (.ptr (h.rb + i) 0) (h.dS (h.rb + i) (Bx (iH l) l)) := aca dD hn h2 hb k
theorem kj.mono {z : Nat} {h h' : Hp} {a : AV} {l : List AV} (ha : kj z h a l) (h1 : ∀ c, c < h.nx → h'.at c = h.at c) (h2 : h.nx ≤ h'.nx) : kj z h' a l := by
  rcases ha with ⟨e1, e2⟩ | ⟨c, t, e1, e2, e3, e4⟩
  · exact .inl ⟨e1, e2⟩
  · exact .inr ⟨c, t, e1, by omega, by rw [h1 c e2]; exact e3, e4⟩
theorem kj.agi {z : Nat} {h h' : Hp} {a : AV} {l : List AV} (ha : kj z h a l) (h1 : ∀ c n, a = .ms c 0 n z → h'.at c = h.at c) (h2 : h.nx ≤ h'.nx) : kj z h' a l := by
  rcases ha with ⟨e1, e2⟩ | ⟨c, t, e1, e2, e3, e4⟩
  · exact .inl ⟨e1, e2⟩
  · exact .inr ⟨c, t, e1, by omega, by rw [h1 c _ e1]; exact e3, e4⟩
end Go.Proofs.YtbamejikafhenaaDoor.Ev
namespace Go.Proofs.YtbamejikafhenaaDoor.Tz
noncomputable section
def a7v : Sm := aC Go.Proofs.YtbamejikafhenaaDoor.Tz.a5u [1, 0, 1]
def zX : Sm := aC Go.Proofs.YtbamejikafhenaaDoor.Tz.a5u [1, 1, 1, 0, 1]
def ue : Sm := aC Go.Proofs.YtbamejikafhenaaDoor.Tz.a5u [1, 1, 1, 1, 0, 1, 1]
def aau : aa → aa := eN Go.Proofs.YtbamejikafhenaaDoor.Tz.a5u
theorem t13 (x0 x1 : AV) (hp : Hp) : r13.f (.nd x0 .lf (.nd x1 .lf .lf)) hp = aau (cF mem (aY mem) x0 3 3 hp (fun v0 v1 => cF mem (aY mem) x1 7 7 v1 (fun v2 v3 => fieldAddr 0 v2 (fun v4 => aq mem false 1 v4 v3 (fun v5 => (ae .lss 3).f v5 (.int 3 0) (fun v6 => gd v6 false v3 (fun k7 => fieldAddr 0 v2 (fun v8 => k7 v8 v3)) (fun v9 v10 => gd v6 false v10 (fun k11 => aq mem false 1 v9 v10 (fun v12 => k11 v12 v10)) (fun v13 v14 => gd v6 false v14 (fun k15 => (ae .gtr 3).f v13 (.int 3 5000) (fun v16 => k15 v16 v14)) (fun v17 v18 => aI v6 (fun v19 => v19 (.bool true)) (fun v20 => v20 v17) (fun v21 => gd v21 false v18 (fun k22 => fieldAddr 1 v2 (fun v23 => k22 v23 v18)) (fun v24 v25 => gd v21 false v25 (fun k26 => aq mem false 1 v24 v25 (fun v27 => k26 v27 v25)) (fun v28 v29 => gd v21 false v29 (fun k30 => (ae .lss 3).f v28 (.int 3 0) (fun v31 => k30 v31 v29)) (fun v32 v33 => aI v21 (fun v34 => v34 (.bool true)) (fun v35 => v35 v32) (fun v36 => gd v36 false v33 (fun k37 => fieldAddr 1 v2 (fun v38 => k37 v38 v33)) (fun v39 v40 => gd v36 false v40 (fun k41 => aq mem false 1 v39 v40 (fun v42 => k41 v42 v40)) (fun v43 v44 => gd v36 false v44 (fun k45 => (ae .geq 3).f v43 (.int 3 16) (fun v46 => k45 v46 v44)) (fun v47 v48 => aI v36 (fun v49 => v49 (.bool true)) (fun v50 => v50 v47) (fun v51 => gd v51 false v48 (fun k52 => fieldAddr 2 v2 (fun v53 => k52 v53 v48)) (fun v54 v55 => gd v51 false v55 (fun k56 => aq mem false 1 v54 v55 (fun v57 => k56 v57 v55)) (fun v58 v59 => gd v51 false v59 (fun k60 => (ae .lss 3).f v58 (.int 3 0) (fun v61 => k60 v61 v59)) (fun v62 v63 => aI v51 (fun v64 => v64 (.bool true)) (fun v65 => v65 v62) (fun v66 => gd v66 false v63 (fun k67 => fieldAddr 2 v2 (fun v68 => k67 v68 v63)) (fun v69 v70 => gd v66 false v70 (fun k71 => aq mem false 1 v69 v70 (fun v72 => k71 v72 v70)) (fun v73 v74 => gd v66 false v74 (fun k75 => fieldAddr 2 v0 (fun v76 => k75 v76 v74)) (fun v77 v78 => gd v66 false v78 (fun k79 => aq mem false 1 v77 v78 (fun v80 => k79 v80 v78)) (fun v81 v82 => gd v66 false v82 (fun k83 => cz mem 1 v81 v82 (fun v84 => ar (Nat.ble v84 9223372036854775807) (k83 (.int 3 v84) v82))) (fun v85 v86 => gd v66 false v86 (fun k87 => (ae .geq 3).f v73 v85 (fun v88 => k87 v88 v86)) (fun v89 v90 => aI v66 (fun v91 => v91 (.bool true)) (fun v92 => v92 v89) (fun v93 => gd v93 false v90 (fun k94 => fieldAddr 5 v2 (fun v95 => k94 v95 v90)) (fun v96 v97 => gd v93 false v97 (fun k98 => aq mem false 1 v96 v97 (fun v99 => k98 v99 v97)) (fun v100 v101 => gd v93 false v101 (fun k102 => (ae .lss 3).f v100 (.int 3 0) (fun v103 => k102 v103 v101)) (fun v104 v105 => aI v93 (fun v106 => v106 (.bool true)) (fun v107 => v107 v104) (fun v108 => gd v108 false v105 (fun k109 => fieldAddr 5 v2 (fun v110 => k109 v110 v105)) (fun v111 v112 => gd v108 false v112 (fun k113 => aq mem false 1 v111 v112 (fun v114 => k113 v114 v112)) (fun v115 v116 => gd v108 false v116 (fun k117 => (ae .gtr 3).f v115 (.int 3 170) (fun v118 => k117 v118 v116)) (fun v119 v120 => aI v108 (fun v121 => v121 (.bool true)) (fun v122 => v122 v119) (fun v123 => gd v123 false v120 (fun k124 => fieldAddr 6 v2 (fun v125 => k124 v125 v120)) (fun v126 v127 => gd v123 false v127 (fun k128 => aq mem false 1 v126 v127 (fun v129 => k128 v129 v127)) (fun v130 v131 => gd v123 false v131 (fun k132 => (ae .gtr 4).f v130 (.int 4 8) (fun v133 => k132 v133 v131)) (fun v134 v135 => aI v123 (fun v136 => v136 (.bool true)) (fun v137 => v137 v134) (fun v138 => AV.ay v138 (fun v139 => when v139 (.ret (.n x0 x1 (.int 3 8) v0 v2 .uu .uu .uu .e) v135) ((a7v).run .lf (.n x0 x1 (.int 3 0) v0 v2 .uu .uu .uu .e) v135))))))))))))))))))))))))))))))))))))))))))) := (congrArg (fun F => bN.f F (.nd x0 .lf (.nd x1 .lf .lf)) hp) (ba Go.Proofs.YtbamejikafhenaaDoor.Tz.a5u).symm).trans (by kernel_rfl)
theorem ret13 (x0 x1 x2 x3 x4 : AV) (hp : Hp) : aau (.ret (.n x0 x1 x2 x3 x4 .uu .uu .uu .e) hp) = .val x2 hp := by kernel_rfl
theorem a6r (x0 x1 x2 x3 x4 : AV) (hp : Hp) : (a7v).run .lf (.n x0 x1 x2 x3 x4 .uu .uu .uu .e) hp = fieldAddr 2 x3 (fun v140 => aq mem false 1 v140 hp (fun v141 => fieldAddr 2 x4 (fun v142 => aq mem false 1 v142 hp (fun v143 => indexAddr 7 v141 v143 (fun v144 => aq mem true 7 v144 hp (fun v145 => cF mem (aY mem) (AV.agg (aw [S [], .int 3 0, .int 3 0, .x 8 .lf 0 0 0, .x 8 .lf 0 0 0, .x 8 .lf 0 0 0, .x 8 .lf 0 0 0]) 7) 7 7 hp (fun v146 v147 => aH mem 7 v146 v145 v147 (fun v148 => eY 29 v148 (fun v149 => fieldAddr 0 v146 (fun v150 => aq mem false 1 v150 v149 (fun v151 => cz mem 0 v151 v149 (fun v152 => ar (Nat.ble v152 9223372036854775807) ((ae .gtr 3).f (.int 3 v152) (.int 3 16) (fun v153 => gd v153 false v149 (fun k154 => fieldAddr 3 x4 (fun v155 => k154 v155 v149)) (fun v156 v157 => gd v153 false v157 (fun k158 => aq mem false 1 v156 v157 (fun v159 => k158 v159 v157)) (fun v160 v161 => gd v153 false v161 (fun k162 => (ae .lss 3).f v160 (.int 3 0) (fun v163 => k162 v163 v161)) (fun v164 v165 => aI v153 (fun v166 => v166 (.bool true)) (fun v167 => v167 v164) (fun v168 => gd v168 false v165 (fun k169 => fieldAddr 3 x4 (fun v170 => k169 v170 v165)) (fun v171 v172 => gd v168 false v172 (fun k173 => aq mem false 1 v171 v172 (fun v174 => k173 v174 v172)) (fun v175 v176 => gd v168 false v176 (fun k177 => fieldAddr 4 v146 (fun v178 => k177 v178 v176)) (fun v179 v180 => gd v168 false v180 (fun k181 => aq mem false 1 v179 v180 (fun v182 => k181 v182 v180)) (fun v183 v184 => gd v168 false v184 (fun k185 => cz mem 1 v183 v184 (fun v186 => ar (Nat.ble v186 9223372036854775807) (k185 (.int 3 v186) v184))) (fun v187 v188 => gd v168 false v188 (fun k189 => (ae .geq 3).f v175 v187 (fun v190 => k189 v190 v188)) (fun v191 v192 => aI v168 (fun v193 => v193 (.bool true)) (fun v194 => v194 v191) (fun v195 => gd v195 false v192 (fun k196 => fieldAddr 4 v146 (fun v197 => k196 v197 v192)) (fun v198 v199 => gd v195 false v199 (fun k200 => aq mem false 1 v198 v199 (fun v201 => k200 v201 v199)) (fun v202 v203 => gd v195 false v203 (fun k204 => fieldAddr 3 x4 (fun v205 => k204 v205 v203)) (fun v206 v207 => gd v195 false v207 (fun k208 => aq mem false 1 v206 v207 (fun v209 => k208 v209 v207)) (fun v210 v211 => gd v195 false v211 (fun k212 => indexAddr 4 v202 v210 (fun v213 => k212 v213 v211)) (fun v214 v215 => gd v195 false v215 (fun k216 => fieldAddr 0 v214 (fun v217 => k216 v217 v215)) (fun v218 v219 => gd v195 false v219 (fun k220 => aq mem false 1 v218 v219 (fun v221 => k220 v221 v219)) (fun v222 v223 => gd v195 false v223 (fun k224 => fieldAddr 4 x4 (fun v225 => k224 v225 v223)) (fun v226 v227 => gd v195 false v227 (fun k228 => aq mem false 1 v226 v227 (fun v229 => k228 v229 v227)) (fun v230 v231 => gd v195 false v231 (fun k232 => (ae .neq 4).f v222 v230 (fun v233 => k232 v233 v231)) (fun v234 v235 => aI v195 (fun v236 => v236 (.bool true)) (fun v237 => v237 v234) (fun v238 => AV.ay v238 (fun v239 => when v239 (.ret (.n x0 x1 (.int 3 8) x3 x4 .uu .uu .uu .e) v235) ((zX).run .lf (.n x0 x1 x2 x3 x4 .uu .uu .uu .e) v235)))))))))))))))))))))))))))))))))))))) := by kernel_rfl
theorem a13 (x0 x1 x2 x3 x4 : AV) (hp : Hp) : (zX).run .lf (.n x0 x1 x2 x3 x4 .uu .uu .uu .e) hp = fieldAddr 4 x4 (fun v240 => aq mem false 1 v240 hp (fun v241 => au mem false r18 (.nd v241 .lf .lf) hp (fun v242 v243 => bg 0 v242 (fun _ => bg 1 v242 (fun v245 => (ae .neq 3).f v245 (.int 3 0) (fun v246 => AV.ay v246 (fun v247 => when v247 (.ret (.n x0 x1 (.int 3 8) x3 x4 .uu .uu .uu .e) v243) ((ue).run .lf (.n x0 x1 x2 x3 x4 .uu .uu .uu .e) v243)))))))) := by kernel_rfl
theorem wL (x0 x1 x2 x3 x4 : AV) (hp : Hp) : (ue).run .lf (.n x0 x1 x2 x3 x4 .uu .uu .uu .e) hp = .ret (.n x0 x1 (.int 3 0) x3 x4 .uu .uu .uu .e) hp := by kernel_rfl
end
noncomputable section
def a74 : Sm := aC Go.Proofs.YtbamejikafhenaaDoor.Tz.a9Q [1, 0, 1]
def a09 : Sm := aC Go.Proofs.YtbamejikafhenaaDoor.Tz.a9Q [1, 1, 1, 0, 1]
def abc : aa → aa := eN Go.Proofs.YtbamejikafhenaaDoor.Tz.a9Q
theorem t14 (x0 x1 : AV) (hp : Hp) : r14.f (.nd x0 .lf (.nd x1 .lf .lf)) hp = abc (cF mem (aY mem) x0 3 3 hp (fun v0 v1 => cF mem (aY mem) x1 7 7 v1 (fun v2 v3 => fieldAddr 0 v2 (fun v4 => aq mem false 1 v4 v3 (fun v5 => (ae .lss 3).f v5 (.int 3 0) (fun v6 => gd v6 false v3 (fun k7 => fieldAddr 0 v2 (fun v8 => k7 v8 v3)) (fun v9 v10 => gd v6 false v10 (fun k11 => aq mem false 1 v9 v10 (fun v12 => k11 v12 v10)) (fun v13 v14 => gd v6 false v14 (fun k15 => (ae .gtr 3).f v13 (.int 3 5000) (fun v16 => k15 v16 v14)) (fun v17 v18 => aI v6 (fun v19 => v19 (.bool true)) (fun v20 => v20 v17) (fun v21 => gd v21 false v18 (fun k22 => fieldAddr 1 v2 (fun v23 => k22 v23 v18)) (fun v24 v25 => gd v21 false v25 (fun k26 => aq mem false 1 v24 v25 (fun v27 => k26 v27 v25)) (fun v28 v29 => gd v21 false v29 (fun k30 => (ae .lss 3).f v28 (.int 3 0) (fun v31 => k30 v31 v29)) (fun v32 v33 => aI v21 (fun v34 => v34 (.bool true)) (fun v35 => v35 v32) (fun v36 => gd v36 false v33 (fun k37 => fieldAddr 1 v2 (fun v38 => k37 v38 v33)) (fun v39 v40 => gd v36 false v40 (fun k41 => aq mem false 1 v39 v40 (fun v42 => k41 v42 v40)) (fun v43 v44 => gd v36 false v44 (fun k45 => (ae .geq 3).f v43 (.int 3 16) (fun v46 => k45 v46 v44)) (fun v47 v48 => aI v36 (fun v49 => v49 (.bool true)) (fun v50 => v50 v47) (fun v51 => gd v51 false v48 (fun k52 => fieldAddr 2 v2 (fun v53 => k52 v53 v48)) (fun v54 v55 => gd v51 false v55 (fun k56 => aq mem false 1 v54 v55 (fun v57 => k56 v57 v55)) (fun v58 v59 => gd v51 false v59 (fun k60 => (ae .lss 3).f v58 (.int 3 0) (fun v61 => k60 v61 v59)) (fun v62 v63 => aI v51 (fun v64 => v64 (.bool true)) (fun v65 => v65 v62) (fun v66 => gd v66 false v63 (fun k67 => fieldAddr 2 v2 (fun v68 => k67 v68 v63)) (fun v69 v70 => gd v66 false v70 (fun k71 => aq mem false 1 v69 v70 (fun v72 => k71 v72 v70)) (fun v73 v74 => gd v66 false v74 (fun k75 => fieldAddr 2 v0 (fun v76 => k75 v76 v74)) (fun v77 v78 => gd v66 false v78 (fun k79 => aq mem false 1 v77 v78 (fun v80 => k79 v80 v78)) (fun v81 v82 => gd v66 false v82 (fun k83 => cz mem 1 v81 v82 (fun v84 => ar (Nat.ble v84 9223372036854775807) (k83 (.int 3 v84) v82))) (fun v85 v86 => gd v66 false v86 (fun k87 => (ae .geq 3).f v73 v85 (fun v88 => k87 v88 v86)) (fun v89 v90 => aI v66 (fun v91 => v91 (.bool true)) (fun v92 => v92 v89) (fun v93 => gd v93 false v90 (fun k94 => fieldAddr 5 v2 (fun v95 => k94 v95 v90)) (fun v96 v97 => gd v93 false v97 (fun k98 => aq mem false 1 v96 v97 (fun v99 => k98 v99 v97)) (fun v100 v101 => gd v93 false v101 (fun k102 => (ae .lss 3).f v100 (.int 3 0) (fun v103 => k102 v103 v101)) (fun v104 v105 => aI v93 (fun v106 => v106 (.bool true)) (fun v107 => v107 v104) (fun v108 => gd v108 false v105 (fun k109 => fieldAddr 5 v2 (fun v110 => k109 v110 v105)) (fun v111 v112 => gd v108 false v112 (fun k113 => aq mem false 1 v111 v112 (fun v114 => k113 v114 v112)) (fun v115 v116 => gd v108 false v116 (fun k117 => (ae .gtr 3).f v115 (.int 3 170) (fun v118 => k117 v118 v116)) (fun v119 v120 => aI v108 (fun v121 => v121 (.bool true)) (fun v122 => v122 v119) (fun v123 => gd v123 false v120 (fun k124 => fieldAddr 6 v2 (fun v125 => k124 v125 v120)) (fun v126 v127 => gd v123 false v127 (fun k128 => aq mem false 1 v126 v127 (fun v129 => k128 v129 v127)) (fun v130 v131 => gd v123 false v131 (fun k132 => (ae .gtr 4).f v130 (.int 4 8) (fun v133 => k132 v133 v131)) (fun v134 v135 => aI v123 (fun v136 => v136 (.bool true)) (fun v137 => v137 v134) (fun v138 => AV.ay v138 (fun v139 => when v139 (.ret (.n x0 x1 (.int 3 8) v0 v2 .uu .uu .uu .e) v135) ((a74).run .lf (.n x0 x1 (.int 3 0) v0 v2 .uu .uu .uu .e) v135))))))))))))))))))))))))))))))))))))))))))) := (congrArg (fun F => bN.f F (.nd x0 .lf (.nd x1 .lf .lf)) hp) (ba Go.Proofs.YtbamejikafhenaaDoor.Tz.a9Q).symm).trans (by kernel_rfl)
theorem ret14 (x0 x1 x2 x3 x4 : AV) (hp : Hp) : abc (.ret (.n x0 x1 x2 x3 x4 .uu .uu .uu .e) hp) = .val x2 hp := by kernel_rfl
theorem a5V (x0 x1 x2 x3 x4 : AV) (hp : Hp) : (a74).run .lf (.n x0 x1 x2 x3 x4 .uu .uu .uu .e) hp = fieldAddr 2 x3 (fun v140 => aq mem false 1 v140 hp (fun v141 => fieldAddr 2 x4 (fun v142 => aq mem false 1 v142 hp (fun v143 => indexAddr 7 v141 v143 (fun v144 => aq mem true 7 v144 hp (fun v145 => cF mem (aY mem) (AV.agg (aw [S [], .int 3 0, .int 3 0, .x 8 .lf 0 0 0, .x 8 .lf 0 0 0, .x 8 .lf 0 0 0, .x 8 .lf 0 0 0]) 7) 7 7 hp (fun v146 v147 => aH mem 7 v146 v145 v147 (fun v148 => eY 35 v148 (fun v149 => fieldAddr 0 v146 (fun v150 => aq mem false 1 v150 v149 (fun v151 => cz mem 0 v151 v149 (fun v152 => ar (Nat.ble v152 9223372036854775807) ((ae .gtr 3).f (.int 3 v152) (.int 3 16) (fun v153 => gd v153 false v149 (fun k154 => fieldAddr 3 x4 (fun v155 => k154 v155 v149)) (fun v156 v157 => gd v153 false v157 (fun k158 => aq mem false 1 v156 v157 (fun v159 => k158 v159 v157)) (fun v160 v161 => gd v153 false v161 (fun k162 => (ae .lss 3).f v160 (.int 3 0) (fun v163 => k162 v163 v161)) (fun v164 v165 => aI v153 (fun v166 => v166 (.bool true)) (fun v167 => v167 v164) (fun v168 => gd v168 false v165 (fun k169 => fieldAddr 3 x4 (fun v170 => k169 v170 v165)) (fun v171 v172 => gd v168 false v172 (fun k173 => aq mem false 1 v171 v172 (fun v174 => k173 v174 v172)) (fun v175 v176 => gd v168 false v176 (fun k177 => fieldAddr 4 v146 (fun v178 => k177 v178 v176)) (fun v179 v180 => gd v168 false v180 (fun k181 => aq mem false 1 v179 v180 (fun v182 => k181 v182 v180)) (fun v183 v184 => gd v168 false v184 (fun k185 => cz mem 1 v183 v184 (fun v186 => ar (Nat.ble v186 9223372036854775807) (k185 (.int 3 v186) v184))) (fun v187 v188 => gd v168 false v188 (fun k189 => (ae .geq 3).f v175 v187 (fun v190 => k189 v190 v188)) (fun v191 v192 => aI v168 (fun v193 => v193 (.bool true)) (fun v194 => v194 v191) (fun v195 => gd v195 false v192 (fun k196 => fieldAddr 4 v146 (fun v197 => k196 v197 v192)) (fun v198 v199 => gd v195 false v199 (fun k200 => aq mem false 1 v198 v199 (fun v201 => k200 v201 v199)) (fun v202 v203 => gd v195 false v203 (fun k204 => fieldAddr 3 x4 (fun v205 => k204 v205 v203)) (fun v206 v207 => gd v195 false v207 (fun k208 => aq mem false 1 v206 v207 (fun v209 => k208 v209 v207)) (fun v210 v211 => gd v195 false v211 (fun k212 => indexAddr 4 v202 v210 (fun v213 => k212 v213 v211)) (fun v214 v215 => gd v195 false v215 (fun k216 => fieldAddr 0 v214 (fun v217 => k216 v217 v215)) (fun v218 v219 => gd v195 false v219 (fun k220 => aq mem false 1 v218 v219 (fun v221 => k220 v221 v219)) (fun v222 v223 => gd v195 false v223 (fun k224 => fieldAddr 4 x4 (fun v225 => k224 v225 v223)) (fun v226 v227 => gd v195 false v227 (fun k228 => aq mem false 1 v226 v227 (fun v229 => k228 v229 v227)) (fun v230 v231 => gd v195 false v231 (fun k232 => (ae .neq 4).f v222 v230 (fun v233 => k232 v233 v231)) (fun v234 v235 => aI v195 (fun v236 => v236 (.bool true)) (fun v237 => v237 v234) (fun v238 => gd v238 false v235 (fun k239 => fieldAddr 4 x4 (fun v240 => k239 v240 v235)) (fun v241 v242 => gd v238 false v242 (fun k243 => aq mem false 1 v241 v242 (fun v244 => k243 v244 v242)) (fun v245 v246 => gd v238 false v246 (fun k247 => cO mem .nil .nil v246 (fun h248 => au mem false r31 (.nd v245 .lf .lf) h248 (fun v249 v250 => .val v249 v250)) (fun v251 v252 => k247 v252 v251)) (fun v253 v254 => gd v238 false v254 (fun k255 => (cx .eql).f v253 (S []) (fun v256 => k255 v256 v254)) (fun v257 v258 => aI v238 (fun v259 => v259 (.bool true)) (fun v260 => v260 v257) (fun v261 => AV.ay v261 (fun v262 => when v262 (.ret (.n x0 x1 (.int 3 8) x3 x4 .uu .uu .uu .e) v258) ((a09).run .lf (.n x0 x1 x2 x3 x4 .uu .uu .uu .e) v258))))))))))))))))))))))))))))))))))))))))))) := by kernel_rfl
theorem a1Z (x0 x1 x2 x3 x4 : AV) (hp : Hp) : (a09).run .lf (.n x0 x1 x2 x3 x4 .uu .uu .uu .e) hp = .ret (.n x0 x1 (.int 3 0) x3 x4 .uu .uu .uu .e) hp := by kernel_rfl
end
end Go.Proofs.YtbamejikafhenaaDoor.Tz
