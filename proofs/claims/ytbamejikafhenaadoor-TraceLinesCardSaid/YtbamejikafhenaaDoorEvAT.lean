import Derived.Test.YtbamejikafhenaaDoorEvAN
import Derived.Test.YtbamejikafhenaaDoorEvAO
import Derived.Test.YtbamejikafhenaaDoorEvAP
import Derived.Test.YtbamejikafhenaaDoorEvAR
import Derived.Test.YtbamejikafhenaaDoorEvAS
open Go Go.Proofs.YtbamejikafhenaaDoor.Ev
namespace Go.Proofs.YtbamejikafhenaaDoor.Tz
noncomputable section
def pD : Sm := aC Go.Proofs.YtbamejikafhenaaDoor.Tz.abz [1, 1, 1, 0, 1]
def a6L : aa → aa := eN Go.Proofs.YtbamejikafhenaaDoor.Tz.abz
theorem t26 (x0 : AV) (hp : Hp) : r26.f (.nd x0 .lf .lf) hp = a6L (au mem false r44 .lf hp (fun v0 v1 => cF mem (aY mem) (AV.agg (aw [S [], S [], S [], S [], S [], S [], S [], S [], S []]) 9) 1 9 v1 (fun v2 v3 => aH mem 9 v2 v0 v3 (fun v4 => AV.pX v2 (fun v5 v6 => Hp.use mem v4 v5 (Nat.add v6 9) (fun _ _ _ _ _ => eS 1 (.ms v5 v6 9 1) .none .none .none (fun v12 => au mem false r53 (.nd v12 .lf (.nd x0 .lf .lf)) v4 (fun v13 v14 => (ae .lss 3).f v13 (.int 3 1) (fun v15 => AV.ay v15 (fun v16 => when v16 (.ret (.n x0 (.int 4 0) (.int 3 12) v13 .uu .uu .uu .uu .e) v14) ((pD).run .lf (.n x0 (.int 4 0) (.int 3 0) v13 .uu .uu .uu .uu .e) v14))))))) (fun v17 v18 v19 v20 => ar (Nat.beq v20 1) (ar (Nat.beq (Nat.mod v18 1) 0) (ar (Nat.ble 9 v19) (eS 1 (.vs v17 (Nat.div v18 1) 9 1) .none .none .none (fun v21 => au mem false r53 (.nd v21 .lf (.nd x0 .lf .lf)) v4 (fun v22 v23 => (ae .lss 3).f v22 (.int 3 1) (fun v24 => AV.ay v24 (fun v25 => when v25 (.ret (.n x0 (.int 4 0) (.int 3 12) v22 .uu .uu .uu .uu .e) v23) ((pD).run .lf (.n x0 (.int 4 0) (.int 3 0) v22 .uu .uu .uu .uu .e) v23))))))))))))) := (congrArg (fun F => bN.f F (.nd x0 .lf .lf) hp) (ba Go.Proofs.YtbamejikafhenaaDoor.Tz.abz).symm).trans (by kernel_rfl)
theorem ret26 (x0 x1 x2 x3 : AV) (hp : Hp) : a6L (.ret (.n x0 x1 x2 x3 .uu .uu .uu .uu .e) hp) = .val (.bB (.nd x1 .lf (.nd x2 .lf .lf)) 2) hp := by kernel_rfl
theorem a1T (x0 x1 x2 x3 : AV) (hp : Hp) : (pD).run .lf (.n x0 x1 x2 x3 .uu .uu .uu .uu .e) hp = AV.bV x3 (fun v26 v27 => bu 4 (rF (md v26) (hf v26) 256 v27) (fun v28 => .ret (.n x0 v28 (.int 3 0) x3 .uu .uu .uu .uu .e) hp)) := by kernel_rfl
end
end Go.Proofs.YtbamejikafhenaaDoor.Tz
namespace Go.Proofs.YtbamejikafhenaaDoor.Tz
noncomputable section
end
noncomputable section
end
attribute [local irreducible] mem
set_option linter.unusedSimpArgs false
attribute [local congr] di aJ bM dh dm bj de cm aW cf cn c9 bh bK bH aX eJ cg cb cj bm bk aK aO eG bG cq bL bO bD bF ck c7 bl bJ dd bE bI bC
theorem a6F {t : Row} {o n : Nat} {i : Nat} {k : AV → aa} (h : i < n ∧ n < 1000000) : indexAddr 1 (.vs t o n 1) (I i) k = k (.x 1 t (eo 1 (o + i) 0) 1 1) := by
  show ar (Nat.beq 1 1) (fP (I i) n fun j => aG ((o + j) * 1) fun p => k (.x 1 t p 1 1)) = _
  rw [aB (cu 1), a03 (by omega) (by omega) (by omega), az]
  rfl
def jG (s : List UInt8) : List (List UInt8) → Nat → Int
  | [], _ => -1
  | a :: l, i => if s = a then (i : Int) else jG s l (i + 1)
theorem vB (s : List UInt8) : ∀ (l : List (List UInt8)) (i : Nat), jG s l i = -1 ∨ (i : Int) ≤ jG s l i ∧ jG s l i < i + l.length
  | [], _ => .inl rfl
  | a :: l, i => by
    unfold jG
    split
    · exact .inr ⟨Int.le_refl _, by simp only [List.length_cons]; omega⟩
    · rcases vB s l (i + 1) with h | h
      · exact .inl h
      · exact .inr ⟨by omega, by simp only [List.length_cons]; omega⟩
theorem adM {s : List UInt8} {t : Row} {o : Nat} {L : List (List UInt8)} (hL : L.length < 1000000) (ho : o < 1000000) (ht : ∀ j, j < L.length → t.at (o + j) = S (L.getD j [])) (hp : Hp) : ∀ (f i fuel : Nat), L.length - i = f → i ≤ L.length → f < fuel →
    ∃ x3, pt (aD kE fuel (.n (.vs t o L.length 1) (S s) (I 0) (I i) (I L.length) .uu .uu .uu .e) hp) = .ret (.n (.vs t o L.length 1) (S s) (I (jG s (L.drop i) i)) x3 (I L.length) .uu .uu .uu .e) hp
  | f, i, 0, _, _, h => absurd h (Nat.not_lt_zero _)
  | f, i, fuel + 1, hf, hi, hfu => by
    by_cases hil : i < L.length
    · have hd : L.drop i = L.getD i [] :: L.drop (i + 1) := by
        rw [List.drop_eq_getElem_cons hil]; simp [List.getD, hil]
      have hti := ht i hil
      rw [hd]
      by_cases he : s = L.getD i []
      · have hb : (kE).run .lf (.n (.vs t o L.length 1) (S s) (I 0) (I i) (I L.length) .uu .uu .uu .e) hp = .ret (.n (.vs t o L.length 1) (S s) (I i) (I i) (I L.length) .uu .uu .uu .e) hp := by
          simp +contextual (disch := (first | omega | (simp only [Y2] <;> omega) | ((repeat' (first | exact ai | apply ab | apply aj | refine ah (by omega) ?_ ?_)) <;> (simp (disch := (first | omega | (simp only [Y5] <;> omega))) only [Y5, Y8, jc, Nat.reduceAdd, Nat.reduceEqDiff, reduceIte, *])) | exact aN _ | exact True.intro | rfl)) only [Y1, Y6, pb, pc, qk, kU, nT, Int.reduceLT, Int.reduceLE, Int.reduceEq, Int.reduceNeg, Int.reduceToNat, a5c, a5U, a4I, a6w, mP, nf, Nat.reduceAdd, Nat.reduceEqDiff, reduceIte, Nat.reduceLeDiff, wD, Nat.reduceSub, a6F, ldxs, hti]
          rw [if_pos (by omega), if_pos he, ← he]
        rw [eQ hb, a2c]
        unfold jG
        rw [if_pos he]
        exact ⟨_, rfl⟩
      · have hb : (kE).run .lf (.n (.vs t o L.length 1) (S s) (I 0) (I i) (I L.length) .uu .uu .uu .e) hp = .ok (.n (.vs t o L.length 1) (S s) (I 0) (I (i + 1 : Nat)) (I L.length) .uu .uu .uu .e) hp := by
          simp +contextual (disch := (first | omega | (simp only [Y2] <;> omega) | ((repeat' (first | exact ai | apply ab | apply aj | refine ah (by omega) ?_ ?_)) <;> (simp (disch := (first | omega | (simp only [Y5] <;> omega))) only [Y5, Y8, jc, Nat.reduceAdd, Nat.reduceEqDiff, reduceIte, *])) | exact aN _ | exact True.intro | rfl)) only [Y1, Y6, pb, pc, qk, kU, nT, Int.reduceLT, Int.reduceLE, Int.reduceEq, Int.reduceNeg, Int.reduceToNat, a5c, a5U, a4I, a6w, mP, nf, Nat.reduceAdd, Nat.reduceEqDiff, reduceIte, Nat.reduceLeDiff, wD, Nat.reduceSub, a6F, ldxs, hti]
          rw [if_pos (by omega), if_neg he]
          rfl
        rw [cY hb]
        obtain ⟨x3, h⟩ := adM hL ho ht hp (f - 1) (i + 1) fuel (by omega) (by omega) (by omega)
        refine ⟨x3, h.trans ?_⟩
        rw [show jG s (L.getD i [] :: L.drop (i + 1)) i = jG s (L.drop (i + 1)) (i + 1) from if_neg he]
    · have hi2 : i = L.length := by omega
      have hb : (kE).run .lf (.n (.vs t o L.length 1) (S s) (I 0) (I i) (I L.length) .uu .uu .uu .e) hp = .exit 0 (.n (.vs t o L.length 1) (S s) (I 0) (I i) (I L.length) .uu .uu .uu .e) hp := by
        simp +contextual (disch := (first | omega | (simp only [Y2] <;> omega) | ((repeat' (first | exact ai | apply ab | apply aj | refine ah (by omega) ?_ ?_)) <;> (simp (disch := (first | omega | (simp only [Y5] <;> omega))) only [Y5, Y8, jc, Nat.reduceAdd, Nat.reduceEqDiff, reduceIte, *])) | exact aN _ | exact True.intro | rfl)) only [Y1, Y6, pb, Int.reduceLT, Int.reduceLE, Int.reduceEq, Int.reduceNeg, Int.reduceToNat, a5c, a5U, a4I, a6w, mP, nf, Nat.reduceAdd, Nat.reduceEqDiff, reduceIte, Nat.reduceLeDiff, wD, Nat.reduceSub]
        rw [if_neg (by omega)]
      rw [cE hb, a5o, hi2, List.drop_length, qk, a8p]
      exact ⟨_, rfl⟩
theorem adb {s : List UInt8} {t : Row} {o : Nat} {L : List (List UInt8)} (hL : L.length < 900000) (ho : o < 1000000) (ht : ∀ j, j < L.length → t.at (o + j) = S (L.getD j [])) : db (r53.f (.nd (.vs t o L.length 1) .lf (.nd (S s) .lf .lf)) .empty) = some (I (jG s L 0)) := by
  obtain ⟨x3, h⟩ := adM (s := s) (by omega) ho ht .empty L.length 0 1000000 (by omega) (by omega) (by omega)
  simp +contextual (disch := (first | omega | (simp only [Y2] <;> omega) | ((repeat' (first | exact ai | apply ab | apply aj | refine ah (by omega) ?_ ?_)) <;> (simp (disch := (first | omega | (simp only [Y5] <;> omega))) only [Y5, Y8, jc, Nat.reduceAdd, Nat.reduceEqDiff, reduceIte, *])) | exact aN _ | exact True.intro | rfl)) only [Y1, Y6, t53, a3T, Int.reduceLT, Int.reduceLE, Int.reduceEq, Int.reduceNeg, Int.reduceToNat, a5c, a5U, a4I, a6w, mP, nf, Nat.reduceAdd, Nat.reduceEqDiff, reduceIte, Nat.reduceLeDiff, wD, Nat.reduceSub]
  have h' : pt (aD kE 1000000 (.n (.vs t o L.length 1) (S s) (I 0) (I 0) (I L.length) .uu .uu .uu .e) .empty) = _ := h
  rw [h', ret53, List.drop_zero]
  rfl
noncomputable section
def ab4 (r : aa) : Row := aa.rec (motive := fun _ => Row) (fun _ _ => .lf) (fun _ _ _ => .lf) (fun _ _ => .lf) (fun v _ => match v with | .agg t _ => t | _ => .lf) .lf r
def T25 : Row := ab4 ((nW mem 1 35).f (aw (zx.map S)) .lf 0 fun t => .val (.agg t 0) .empty)
def T26 : Row := ab4 ((nW mem 1 9).f (aw (qS.map S)) .lf 0 fun t => .val (.agg t 0) .empty)
def isS (v : AV) (l : List UInt8) : Bool := acQ v fun s k => Nat.beq s (aL l) && Nat.beq k l.length
theorem aeN : (List.range 35).all (fun j => isS (T25.at j) (cG j)) = true := by kernel_rfl
theorem af5 : (List.range 9).all (fun j => isS (T26.at j) (b9 j)) = true := by kernel_rfl
def K25 (s : List UInt8) : AV → Hp → aa := fun v13 v14 => (ae .lss 3).f v13 (.int 3 0) (fun v15 => AV.ay v15 (fun v16 => when v16 (.ret (.n (S s) (.int 4 0) (.int 3 6) v13 .uu .uu .uu .uu .e) v14) ((pK).run .lf (.n (S s) (.int 4 0) (.int 3 0) v13 .uu .uu .uu .uu .e) v14)))
def K26 (s : List UInt8) : AV → Hp → aa := fun v13 v14 => (ae .lss 3).f v13 (.int 3 1) (fun v15 => AV.ay v15 (fun v16 => when v16 (.ret (.n (S s) (.int 4 0) (.int 3 12) v13 .uu .uu .uu .uu .e) v14) ((pD).run .lf (.n (S s) (.int 4 0) (.int 3 0) v13 .uu .uu .uu .uu .e) v14)))
theorem ahk (s : List UInt8) : r25.f (.nd (S s) .lf .lf) .empty = a7t (au mem false r53 (.nd (.ms 0 1 34 1) .lf (.nd (S s) .lf .lf)) ⟨.nd (.row true true 1 35 T25) .lf .lf, 1, [], 0⟩ (K25 s)) := by
  rw [t25]; kernel_rfl
theorem ai0 (s : List UInt8) : r26.f (.nd (S s) .lf .lf) .empty = a6L (au mem false r53 (.nd (.ms 0 0 9 1) .lf (.nd (S s) .lf .lf)) ⟨.nd (.row true true 1 9 T26) .lf .lf, 1, [], 0⟩ (K26 s)) := by
  rw [t26]; kernel_rfl
end
theorem a7e {v : AV} {l : List UInt8} (h : isS v l = true) : v = S l := by
  unfold isS at h
  obtain ⟨s, k, rfl, h2⟩ := xM h
  rw [Bool.and_eq_true, aF, aF] at h2
  rw [h2.1, h2.2]; rfl
theorem aip (j : Nat) (h : j < 35) : T25.at j = S (cG j) := a7e ((List.all_eq_true (l := List.range 35) (p := fun j => isS (T25.at j) (cG j))).1 aeN j (List.mem_range.2 h))
theorem aio (j : Nat) (h : j < 9) : T26.at j = S (b9 j) := a7e ((List.all_eq_true (l := List.range 9) (p := fun j => isS (T26.at j) (b9 j))).1 af5 j (List.mem_range.2 h))
def gO (s : List UInt8) : Int := jG s (zx.drop 1) 0
def dq (s : List UInt8) : Int := jG s qS 0
theorem c53a (s : List UInt8) (k : AV → Hp → aa) : au mem false r53 (.nd (.ms 0 1 34 1) .lf (.nd (S s) .lf .lf)) ⟨.nd (.row true true 1 35 T25) .lf .lf, 1, [], 0⟩ k = k (I (gO s)) ⟨.nd (.row true true 1 35 T25) .lf .lf, 1, [], 0⟩ :=
  zB (by decide) rfl (by decide) (.nd (aV _) .lf) (fD _).goes (adb (L := zx.drop 1) (t := T25) (o := 1) (by decide) (by decide) fun j hj => by
    have hj' : j < 34 := hj
    rw [aip (1 + j) (by omega)]
    unfold cG
    congr 1
    rw [List.getD_eq_getElem?_getD, List.getD_eq_getElem?_getD, List.getElem?_drop]) k
theorem c53b (s : List UInt8) (k : AV → Hp → aa) : au mem false r53 (.nd (.ms 0 0 9 1) .lf (.nd (S s) .lf .lf)) ⟨.nd (.row true true 1 9 T26) .lf .lf, 1, [], 0⟩ k = k (I (dq s)) ⟨.nd (.row true true 1 9 T26) .lf .lf, 1, [], 0⟩ :=
  zB (by decide) rfl (by decide) (.nd (aV _) .lf) (fD _).goes (adb (L := qS) (t := T26) (o := 0) (by decide) (by decide) fun j hj => by
    have hj' : j < 9 := hj
    rw [Nat.zero_add, aio j (by omega)]
    rfl) k
theorem a5k (s : List UInt8) : gO s = -1 ∨ 0 ≤ gO s ∧ gO s < 34 := by
  rcases vB s (zx.drop 1) 0 with h | h
  · exact .inl h
  · exact .inr ⟨h.1, by have h2 := h.2; rw [show (zx.drop 1).length = 34 from rfl] at h2; exact h2⟩
theorem a19 (s : List UInt8) : dq s = -1 ∨ 0 ≤ dq s ∧ dq s < 9 := by
  rcases vB s qS 0 with h | h
  · exact .inl h
  · exact .inr ⟨h.1, by have h2 := h.2; rw [show qS.length = 9 from rfl] at h2; exact h2⟩
theorem ahi (s : List UInt8) : db (r25.f (.nd (S s) .lf .lf) .empty) = some (.bB (.nd (B8 (gO s + 1).toNat) .lf (.nd (I ((if gO s < 0 then 6 else 0 : Nat) : Int)) .lf .lf)) 2) := by
  have h := a5k s
  rw [ahk, c53a]
  unfold K25
  simp +contextual (disch := (first | omega | (simp only [Y2] <;> omega) | ((repeat' (first | exact ai | apply ab | apply aj | refine ah (by omega) ?_ ?_)) <;> (simp (disch := (first | omega | (simp only [Y5] <;> omega))) only [Y5, Y8, jc, Nat.reduceAdd, Nat.reduceEqDiff, reduceIte, *])) | exact aN _ | exact True.intro | rfl)) only [Y1, Y6, a0C, Int.reduceLT, Int.reduceLE, Int.reduceEq, Int.reduceNeg, Int.reduceToNat, a5c, a5U, a4I, a6w, mP, nf, Nat.reduceAdd, Nat.reduceEqDiff, reduceIte, Nat.reduceLeDiff, wD, Nat.reduceSub, apply_ite a7t, apply_ite db, ret25]
  by_cases h0 : gO s < 0
  · rw [if_pos h0, if_pos h0]
    have : gO s = -1 := by omega
    rw [this]; rfl
  · rw [if_neg h0, if_neg h0]; rfl
theorem ahB (s : List UInt8) : db (r26.f (.nd (S s) .lf .lf) .empty) = some (if dq s < 1 then .bB (.nd (B8 0) .lf (.nd (I 12) .lf .lf)) 2 else .bB (.nd (B8 (dq s).toNat) .lf (.nd (I 0) .lf .lf)) 2) := by
  have h := a19 s
  rw [ai0, c53b]
  unfold K26
  simp +contextual (disch := (first | omega | (simp only [Y2] <;> omega) | ((repeat' (first | exact ai | apply ab | apply aj | refine ah (by omega) ?_ ?_)) <;> (simp (disch := (first | omega | (simp only [Y5] <;> omega))) only [Y5, Y8, jc, Nat.reduceAdd, Nat.reduceEqDiff, reduceIte, *])) | exact aN _ | exact True.intro | rfl)) only [Y1, Y6, a1T, Int.reduceLT, Int.reduceLE, Int.reduceEq, Int.reduceNeg, Int.reduceToNat, a5c, a5U, a4I, a6w, mP, nf, Nat.reduceAdd, Nat.reduceEqDiff, reduceIte, Nat.reduceLeDiff, wD, Nat.reduceSub, apply_ite a6L, apply_ite db, ret26]
  by_cases h0 : dq s < 1
  · rw [if_pos h0, if_pos h0]
  · rw [if_neg h0, if_neg h0]
theorem c25 {s : List UInt8} {hp : Hp} {k : AV → Hp → aa} : au mem false r25 (.nd (S s) .lf .lf) hp k = k (.bB (.nd (B8 (gO s + 1).toNat) .lf (.nd (I ((if gO s < 0 then 6 else 0 : Nat) : Int)) .lf .lf)) 2) hp := eO (.nd (aV _) .lf) (gB (agl _) (gG _)) (ahi s) hp k
theorem c26 {s : List UInt8} {hp : Hp} {k : AV → Hp → aa} : au mem false r26 (.nd (S s) .lf .lf) hp k = k (if dq s < 1 then .bB (.nd (B8 0) .lf (.nd (I 12) .lf .lf)) 2 else .bB (.nd (B8 (dq s).toNat) .lf (.nd (I 0) .lf .lf)) 2) hp := eO (.nd (aV _) .lf) (by split <;> exact gB (agl _) (gG _)) (ahB s) hp k
theorem a9S {n : Nat} (h : 1 ≤ n ∧ n < 35) : gO (cG n) = (n : Int) - 1 := by
  have : ∀ n, n < 35 → 1 ≤ n → gO (cG n) = (n : Int) - 1 := by decide
  exact this n h.2 h.1
theorem wv {n : Nat} (h : 1 ≤ n ∧ n ≤ 8) : dq (b9 n) = (n : Int) := by
  have : ∀ n, n < 9 → 1 ≤ n → dq (b9 n) = (n : Int) := by decide
  exact this n (by omega) h.1
end Go.Proofs.YtbamejikafhenaaDoor.Tz
namespace Go.Proofs.YtbamejikafhenaaDoor.Tz
noncomputable section
def aaL : Sm := aC cr7 [1, 0, 1]
def rK : Sm := aC cr7 [1, 1, 1, 1, 1, 1, 1, 0, 1]
def fw : Sm := aC cr7 [1, 1, 1, 1, 1, 1, 1, 1, 1, 1, 1, 1, 1, 1, 1, 1, 1, 1, 1, 0, 1, 0, 1, 0, 1]
def eD : Sm := aC cr7 [1, 1, 1, 1, 1, 1, 1, 1, 1, 1, 1, 1, 1, 1, 1, 1, 1, 1, 1, 0, 1]
def gm : Sm := aC cr7 [1, 1, 1, 1, 1, 1, 1, 1, 1, 1, 1, 1, 1, 1, 1, 1, 1, 1, 1, 1, 0, 1]
def fI : Sm := aC cr7 [1, 1, 1, 1, 1, 1, 1, 1, 1, 1, 1, 1, 1, 1, 1, 1, 1, 1, 1, 1, 1, 0, 1, 1]
def fin7 : aa → aa := eN cr7
theorem t7 (x0 x1 : AV) (hp : Hp) : r7.f (.nd x0 .lf (.nd x1 .lf .lf)) hp = fin7 (cF mem (aY mem) x0 3 3 hp (fun v0 v1 => cF mem (aY mem) (AV.agg (aw [.int 3 0, .int 3 0, .int 3 0, .int 3 0, .int 4 0, .int 3 0, .int 4 0]) 7) 7 7 v1 (fun v2 v3 => cz mem 0 x1 v3 (fun v4 => ar (Nat.ble v4 9223372036854775807) ((ae .gtr 3).f (.int 3 v4) (.int 3 2000) (fun v5 => AV.ay v5 (fun v6 => when v6 (aH mem 7 v2 (AV.agg (aw [.int 3 0, .int 3 0, .int 3 0, .int 3 0, .int 4 0, .int 3 0, .int 4 0]) 7) v3 (fun v7 => .ret (.n x0 x1 v2 (.int 3 4) .uu .uu .uu .uu (.n .uu .uu .uu .uu .uu .uu .uu v0 (.n .uu .uu .uu .uu .uu .uu .uu .uu .e))) v7)) ((aaL).run .lf (.n x0 x1 v2 (.int 3 0) .uu .uu .uu .uu (.n .uu .uu .uu .uu .uu .uu .uu v0 (.n .uu .uu .uu .uu .uu .uu .uu .uu .e))) v3)))))))) := (congrArg (fun F => bN.f F (.nd x0 .lf (.nd x1 .lf .lf)) hp) (ba cr7).symm).trans (by kernel_rfl)
theorem ret7 (x0 x1 x2 x3 x4 x5 x6 x7 x8 x9 x10 x11 x12 x13 x14 x15 : AV) (hp : Hp) : fin7 (.ret (.n x0 x1 x2 x3 x4 x5 x6 x7 (.n x8 x9 x10 x11 x12 x13 x14 x15 (.n .uu .uu .uu .uu .uu .uu .uu .uu .e))) hp) = aq mem true 7 x2 hp (fun v8 => .val (.bB (.nd v8 .lf (.nd x3 .lf .lf)) 2) hp) := by kernel_rfl
theorem a9s (x0 x1 x2 x3 x4 x5 x6 x7 x8 x9 x10 x11 x12 x13 x14 x15 : AV) (hp : Hp) : (aaL).run .lf (.n x0 x1 x2 x3 x4 x5 x6 x7 (.n x8 x9 x10 x11 x12 x13 x14 x15 (.n .uu .uu .uu .uu .uu .uu .uu .uu .e))) hp = cF mem (aY mem) (AV.agg (aw [.int 3 0, .int 3 0, .int 3 0, .int 3 0, .int 4 0, .int 3 0, .int 4 0]) 7) 7 7 hp (fun v9 v10 => cF mem (aY mem) (S []) 1 1 v10 (fun v11 v12 => aH mem 1 v11 x1 v12 (fun v13 => au mem false r22 (.nd v11 .lf (.nd (S [58, 32, 103, 111, 114, 111, 117, 116, 105, 110, 101, 32]) .lf .lf)) v13 (fun v14 v15 => bg 0 v14 (fun v16 => bg 1 v14 (fun v17 => au mem false r22 (.nd v11 .lf (.nd (S [32, 34]) .lf .lf)) v15 (fun v18 v19 => bg 0 v18 (fun v20 => bg 1 v18 (fun v21 => aq mem false 1 v11 v19 (fun v22 => au mem false r23 (.nd v22 .lf (.nd (S [32, 97, 116, 32]) .lf .lf)) v19 (fun v23 v24 => AV.ay v17 (fun v25 => gd (.bool (dv v25)) false v24 (fun k26 => k26 v21 v24) (fun v27 v28 => gd (.bool (dv v25)) false v28 (fun k29 => AV.ay v27 (fun v30 => k29 (.bool (dv v30)) v28)) (fun v31 v32 => aI (.bool (dv v25)) (fun v33 => v33 (.bool true)) (fun v34 => v34 v31) (fun v35 => gd v35 false v32 (fun k36 => k36 v23 v32) (fun v37 v38 => gd v35 false v38 (fun k39 => (ae .lss 3).f v37 (.int 3 0) (fun v40 => k39 v40 v38)) (fun v41 v42 => aI v35 (fun v43 => v43 (.bool true)) (fun v44 => v44 v41) (fun v45 => AV.ay v45 (fun v46 => when v46 (aH mem 7 x2 (AV.agg (aw [.int 3 0, .int 3 0, .int 3 0, .int 3 0, .int 4 0, .int 3 0, .int 4 0]) 7) v42 (fun v47 => .ret (.n x0 x1 x2 (.int 3 12) v11 v23 v16 v20 (.n v9 x9 x10 x11 x12 x13 x14 x15 (.n .uu .uu .uu .uu .uu .uu .uu .uu .e))) v47)) ((rK).run .lf (.n x0 x1 x2 x3 v11 v23 v16 v20 (.n v9 x9 x10 x11 x12 x13 x14 x15 (.n .uu .uu .uu .uu .uu .uu .uu .uu .e))) v42)))))))))))))))))))) := by kernel_rfl
theorem vv (x0 x1 x2 x3 x4 x5 x6 x7 x8 x9 x10 x11 x12 x13 x14 x15 : AV) (hp : Hp) : (rK).run .lf (.n x0 x1 x2 x3 x4 x5 x6 x7 (.n x8 x9 x10 x11 x12 x13 x14 x15 (.n .uu .uu .uu .uu .uu .uu .uu .uu .e))) hp = eY 10 hp (fun v48 => aq mem false 1 x4 v48 (fun v49 => aq mem false 1 x4 v48 (fun v50 => dj v50 .none (.some x5) (fun v51 => cF mem (jR mem 8) (S []) 1 1 v48 (fun v52 v53 => cO mem (.cons 8 .nil) (.cons (fun v57 => v57 x4) .nil) v53 (fun h54 => au mem false r23 (.nd v51 .lf (.nd (S [32]) .lf .lf)) h54 (fun v55 v56 => .val v55 v56)) (fun v58 v59 => (ae .add 3).f v59 (.int 3 1) (fun v60 => dj v49 (.some v60) (.some x5) (fun v61 => cO mem .nil .nil v58 (fun h62 => aH mem 1 v52 v61 h62 (fun v63 => .val (.bB .lf 0) v63)) (fun v64 _ => au mem false r22 (.nd v52 .lf (.nd (S []) .lf .lf)) v64 (fun v66 v67 => bg 0 v66 (fun v68 => bg 1 v66 (fun v69 => aq mem false 1 x4 v67 (fun v70 => (ae .add 3).f x5 (.int 3 4) (fun v71 => dj v70 (.some v71) .none (fun v72 => aH mem 1 x4 v72 v67 (fun v73 => au mem false r22 (.nd x4 .lf (.nd (S [32]) .lf .lf)) v73 (fun v74 v75 => bg 0 v74 (fun v76 => bg 1 v74 (fun v77 => aq mem false 1 x4 v75 (fun v78 => au mem false r24 (.nd v78 .lf (.nd (S [44, 32, 102, 114, 97, 109, 101, 115, 32]) .lf .lf)) v75 (fun v79 v80 => bg 0 v79 (fun v81 => bg 1 v79 (fun v82 => bg 2 v79 (fun v83 => aH mem 1 x4 v82 v80 (fun v84 => aq mem false 1 x4 v84 (fun v85 => au mem false r24 (.nd v85 .lf (.nd (S [44, 32]) .lf .lf)) v84 (fun v86 v87 => bg 0 v86 (fun v88 => bg 1 v86 (fun v89 => bg 2 v86 (fun _ => cF mem (aY mem) (S []) 1 1 v87 (fun v91 v92 => aH mem 1 v91 v88 v92 (fun v93 => fieldAddr 0 x8 (fun v94 => aH mem 1 v94 x6 v93 (fun v95 => fieldAddr 1 x8 (fun v96 => aH mem 1 v96 x7 v95 (fun v97 => fieldAddr 2 x8 (fun v98 => aH mem 1 v98 v68 v97 (fun v99 => fieldAddr 3 x8 (fun v100 => aH mem 1 v100 v76 v99 (fun v101 => au mem false r25 (.nd v81 .lf .lf) v101 (fun v102 v103 => bg 0 v102 (fun v104 => bg 1 v102 (fun v105 => fieldAddr 4 x8 (fun v106 => aH mem 1 v106 v104 v103 (fun v107 => au mem false r22 (.nd v91 .lf (.nd (S []) .lf .lf)) v107 (fun v108 v109 => bg 0 v108 (fun v110 => bg 1 v108 (fun v111 => fieldAddr 5 x8 (fun v112 => aH mem 1 v112 v110 v109 (fun v113 => (cx .neq).f v89 (S []) (fun v114 => AV.ay v114 (fun v115 => when v115 (au mem false r26 (.nd v89 .lf .lf) v113 (fun v116 v117 => bg 0 v116 (fun v118 => bg 1 v116 (fun v119 => (ae .neq 3).f v119 (.int 3 0) (fun v120 => AV.ay v120 (fun v121 => when v121 (aH mem 7 x2 (AV.agg (aw [.int 3 0, .int 3 0, .int 3 0, .int 3 0, .int 4 0, .int 3 0, .int 4 0]) 7) v117 (fun v122 => .ret (.n x0 x1 x2 (.int 3 12) x4 x5 x6 x7 (.n x8 v118 v69 v77 v83 v111 v105 x15 (.n .uu .uu .uu .uu .uu .uu .uu .uu .e))) v122)) ((fw).run .lf (.n x0 x1 x2 x3 x4 x5 x6 x7 (.n x8 v118 v69 v77 v83 v111 v105 x15 (.n .uu .uu .uu .uu .uu .uu .uu .uu .e))) v117))))))) ((eD).run .lf (.n x0 x1 x2 x3 x4 x5 x6 x7 (.n x8 x9 v69 v77 v83 v111 v105 x15 (.n .uu .uu .uu .uu .uu .uu .uu .uu .e))) v113))))))))))))))))))))))))))))))))))))))))))))))))))))) := by kernel_rfl
theorem iK (x0 x1 x2 x3 x4 x5 x6 x7 x8 x9 x10 x11 x12 x13 x14 x15 : AV) (hp : Hp) : (fw).run .lf (.n x0 x1 x2 x3 x4 x5 x6 x7 (.n x8 x9 x10 x11 x12 x13 x14 x15 (.n .uu .uu .uu .uu .uu .uu .uu .uu .e))) hp = fieldAddr 6 x8 (fun v123 => aH mem 1 v123 x9 hp (fun v124 => (eD).run .lf (.n x0 x1 x2 x3 x4 x5 x6 x7 (.n x8 x9 x10 x11 x12 x13 x14 x15 (.n .uu .uu .uu .uu .uu .uu .uu .uu .e))) v124)) := by kernel_rfl
theorem ka (x0 x1 x2 x3 x4 x5 x6 x7 x8 x9 x10 x11 x12 x13 x14 x15 : AV) (hp : Hp) : (eD).run .lf (.n x0 x1 x2 x3 x4 x5 x6 x7 (.n x8 x9 x10 x11 x12 x13 x14 x15 (.n .uu .uu .uu .uu .uu .uu .uu .uu .e))) hp = AV.ay x10 (fun v125 => gd (.bool (dv v125)) false hp (fun k126 => k126 x11 hp) (fun v127 v128 => gd (.bool (dv v125)) false v128 (fun k129 => AV.ay v127 (fun v130 => k129 (.bool (dv v130)) v128)) (fun v131 v132 => aI (.bool (dv v125)) (fun v133 => v133 (.bool true)) (fun v134 => v134 v131) (fun v135 => gd v135 false v132 (fun k136 => k136 x12 v132) (fun v137 v138 => gd v135 false v138 (fun k139 => AV.ay v137 (fun v140 => k139 (.bool (dv v140)) v138)) (fun v141 v142 => aI v135 (fun v143 => v143 (.bool true)) (fun v144 => v144 v141) (fun v145 => gd v145 false v142 (fun k146 => k146 x13 v142) (fun v147 v148 => gd v145 false v148 (fun k149 => AV.ay v147 (fun v150 => k149 (.bool (dv v150)) v148)) (fun v151 v152 => aI v145 (fun v153 => v153 (.bool true)) (fun v154 => v154 v151) (fun v155 => gd v155 false v152 (fun k156 => k156 x14 v152) (fun v157 v158 => gd v155 false v158 (fun k159 => (ae .neq 3).f v157 (.int 3 0) (fun v160 => k159 v160 v158)) (fun v161 v162 => aI v155 (fun v163 => v163 (.bool true)) (fun v164 => v164 v161) (fun v165 => AV.ay v165 (fun v166 => when v166 (aH mem 7 x2 (AV.agg (aw [.int 3 0, .int 3 0, .int 3 0, .int 3 0, .int 4 0, .int 3 0, .int 4 0]) 7) v162 (fun v167 => .ret (.n x0 x1 x2 (.int 3 12) x4 x5 x6 x7 (.n x8 x9 x10 x11 x12 x13 x14 x15 (.n .uu .uu .uu .uu .uu .uu .uu .uu .e))) v167)) ((gm).run .lf (.n x0 x1 x2 x3 x4 x5 x6 x7 (.n x8 x9 x10 x11 x12 x13 x14 x15 (.n .uu .uu .uu .uu .uu .uu .uu .uu .e))) v162))))))))))))))) := by kernel_rfl
theorem jM (x0 x1 x2 x3 x4 x5 x6 x7 x8 x9 x10 x11 x12 x13 x14 x15 : AV) (hp : Hp) : (gm).run .lf (.n x0 x1 x2 x3 x4 x5 x6 x7 (.n x8 x9 x10 x11 x12 x13 x14 x15 (.n .uu .uu .uu .uu .uu .uu .uu .uu .e))) hp = aq mem true 3 x15 hp (fun v168 => aq mem true 7 x8 hp (fun v169 => au mem false r5 (.nd v168 .lf (.nd v169 .lf .lf)) hp (fun v170 v171 => bg 0 v170 (fun v172 => bg 1 v170 (fun v173 => (ae .neq 3).f v173 (.int 3 0) (fun v174 => gd v174 false v171 (fun k175 => k175 v172 v171) (fun v176 v177 => gd v174 false v177 (fun k178 => k178 x1 v177) (fun v179 v180 => gd v174 false v180 (fun k181 => (cx .neq).f v176 v179 (fun v182 => k181 v182 v180)) (fun v183 v184 => aI v174 (fun v185 => v185 (.bool true)) (fun v186 => v186 v183) (fun v187 => AV.ay v187 (fun v188 => when v188 (aH mem 7 x2 (AV.agg (aw [.int 3 0, .int 3 0, .int 3 0, .int 3 0, .int 4 0, .int 3 0, .int 4 0]) 7) v184 (fun v189 => .ret (.n x0 x1 x2 (.int 3 12) x4 x5 x6 x7 (.n x8 x9 x10 x11 x12 x13 x14 x15 (.n .uu .uu .uu .uu .uu .uu .uu .uu .e))) v189)) ((fI).run .lf (.n x0 x1 x2 x3 x4 x5 x6 x7 (.n x8 x9 x10 x11 x12 x13 x14 x15 (.n .uu .uu .uu .uu .uu .uu .uu .uu .e))) v184)))))))))))) := by kernel_rfl
theorem iY (x0 x1 x2 x3 x4 x5 x6 x7 x8 x9 x10 x11 x12 x13 x14 x15 : AV) (hp : Hp) : (fI).run .lf (.n x0 x1 x2 x3 x4 x5 x6 x7 (.n x8 x9 x10 x11 x12 x13 x14 x15 (.n .uu .uu .uu .uu .uu .uu .uu .uu .e))) hp = aq mem true 7 x8 hp (fun v190 => aH mem 7 x2 v190 hp (fun v191 => .ret (.n x0 x1 x2 (.int 3 0) x4 x5 x6 x7 (.n x8 x9 x10 x11 x12 x13 x14 x15 (.n .uu .uu .uu .uu .uu .uu .uu .uu .e))) v191)) := by kernel_rfl
end
attribute [local irreducible] mem
set_option linter.unusedSimpArgs false
attribute [local congr] di aJ bM dh dm bj de cm aW cf cn c9 bh bK bH aX eJ cg cb cj bm bk aK aO eG bG cq bL bO bD bF ck c7 bl bJ dd bE bI bC cN a2W
theorem c23 {s p : List UInt8} {hp : Hp} {k : AV → Hp → aa} (h : s.length ≤ 4294967280 ∧ p.length ≤ 4294967280) : au mem false r23 (.nd (S s) .lf (.nd (S p) .lf .lf)) hp k = k (I (Lib.lastIndex s p)) hp := eO (.nd (aV _) (.nd (aV _) .lf)) (fD _).goes (mV ⟨.empty, xI (spec := fun s p => I (Lib.lastIndex s p)) h.1 h.2 .empty⟩) hp k
theorem c24 {s p : List UInt8} {hp : Hp} {k : AV → Hp → aa} (h : s.length ≤ 4294967280 ∧ p.length ≤ 4294967280) : au mem false r24 (.nd (S s) .lf (.nd (S p) .lf .lf)) hp k = k (.bB (.nd (S (Lib.cut s p).1) .lf (.nd (S (Lib.cut s p).2.1) .lf (.nd (.bool (Lib.cut s p).2.2) .lf .lf))) 3) hp := eO (.nd (aV _) (.nd (aV _) .lf)) (goes3 (oA _) (oA _) (a2s _)) (mV ⟨.empty, xI (spec := fun s p => .bB (.nd (S (Lib.cut s p).1) .lf (.nd (S (Lib.cut s p).2.1) .lf (.nd (.bool (Lib.cut s p).2.2) .lf .lf))) 3) h.1 h.2 .empty⟩) hp k
theorem c24d {s p : List UInt8} {hp : Hp} {k : AV → Hp → aa} (h : s.length ≤ 4294967280 ∧ p.length ≤ 4294967280) : au mem false r24 (.nd (S s) .lf (.nd (S p) .lf .lf)) hp k = k (.bB (.nd (S (Lib.cut s p).1) .lf (.nd (S (Lib.cut s p).2.1) .lf (.nd (.bool (decide ((Lib.cut s p).2.2 = true))) .lf .lf))) 3) hp := by
  rw [c24 h, Bool.decide_eq_true]
theorem c25i {s : List UInt8} {hp : Hp} {k : AV → Hp → aa} : au mem false r25 (.nd (S s) .lf .lf) hp k = if gO s < 0 then k (.bB (.nd (B8 0) .lf (.nd (I 6) .lf .lf)) 2) hp else k (.bB (.nd (B8 (gO s + 1).toNat) .lf (.nd (I 0) .lf .lf)) 2) hp := by
  rw [c25]
  have := a5k s
  by_cases h : gO s < 0
  · have e : gO s = -1 := by omega
    rw [if_pos h, if_pos h, e]; rfl
  · rw [if_neg h, if_neg h]; rfl
theorem c26i {s : List UInt8} {hp : Hp} {k : AV → Hp → aa} : au mem false r26 (.nd (S s) .lf .lf) hp k = if dq s < 1 then k (.bB (.nd (B8 0) .lf (.nd (I 12) .lf .lf)) 2) hp else k (.bB (.nd (B8 (dq s).toNat) .lf (.nd (I 0) .lf .lf)) 2) hp := by
  rw [c26]
  by_cases h : dq s < 1
  · rw [if_pos h, if_pos h]
  · rw [if_neg h, if_neg h]
theorem c5i {m : cD} {x : Mk} (h : bz m) (hn : m.n ≤ 40) (hnc : ∀ i, i < m.n → m.nc i ≤ 300) (hx : x.Ok) (hp : Hp) (k : AV → Hp → aa) : au mem false r5 (.nd m.av .lf (.nd x.av .lf .lf)) hp k = if Fits m x then k (.bB (.nd (S (aQ m x)) .lf (.nd (I 0) .lf .lf)) 2) hp else k (.bB (.nd (S []) .lf (.nd (I 8) .lf .lf)) 2) hp := by
  rw [c5 h hn hnc hx]
  split <;> rfl
theorem abi (s p : List UInt8) : -1 ≤ Lib.lastIndex s p ∧ (0 ≤ Lib.lastIndex s p → Lib.lastIndex s p + p.length ≤ s.length) := by
  unfold Lib.lastIndex
  split
  · rcases Lib.lastOcc_spec s p (s.length - p.length + 1) with ⟨h, _⟩ | ⟨i, h1, h2, _⟩
    · rw [h]; omega
    · rw [h2]; omega
  · omega
theorem a1a (s p : List UInt8) : (Lib.cut s p).1.length ≤ s.length ∧ (Lib.cut s p).2.1.length ≤ s.length := by
  unfold Lib.cut
  split
  · exact ⟨by rw [List.length_take]; omega, by rw [List.length_drop]; omega⟩
  · exact ⟨Nat.le_refl _, Nat.zero_le _⟩
def Good (P : AV → Prop) (o : Option AV) : Prop := ∃ v, o = some v ∧ P v
theorem abl {P : AV → Prop} {c : Prop} [Decidable c] {a b : Option AV} (h1 : c → Good P a) (h2 : ¬c → Good P b) : Good P (if c then a else b) := by
  by_cases h : c
  · rw [if_pos h]; exact h1 h
  · rw [if_neg h]; exact h2 h
def tf : Mk := ⟨0, 0, 0, 0, 0, 0, 0⟩
noncomputable def acw (e : Int) : AV := .bB (.nd tf.av .lf (.nd (I e) .lf .lf)) 2
noncomputable def a71 (x : Mk) : AV := .bB (.nd x.av .lf (.nd (I 0) .lf .lf)) 2
noncomputable def q1 (s : List UInt8) : Int × Bool × List UInt8 := eU s [58, 32, 103, 111, 114, 111, 117, 116, 105, 110, 101, 32]
noncomputable def q2 (s : List UInt8) : Int × Bool × List UInt8 := eU (q1 s).2.2 [32, 34]
noncomputable def qi (s : List UInt8) : Int := Lib.lastIndex (q2 s).2.2 [32, 97, 116, 32]
noncomputable def qj (s : List UInt8) : Int := Lib.lastIndex ((q2 s).2.2.take (qi s).toNat) [32]
noncomputable def q3 (s : List UInt8) : Int × Bool × List UInt8 := eU (((q2 s).2.2.take (qi s).toNat).drop (qj s + 1).toNat) []
noncomputable def q4 (s : List UInt8) : Int × Bool × List UInt8 := eU ((q2 s).2.2.drop (qi s + 4).toNat) [32]
noncomputable def d1 (s : List UInt8) : List UInt8 × List UInt8 × Bool := Lib.cut (q4 s).2.2 [44, 32, 102, 114, 97, 109, 101, 115, 32]
noncomputable def d2 (s : List UInt8) : List UInt8 × List UInt8 × Bool := Lib.cut (d1 s).2.1 [44, 32]
noncomputable def q5 (s : List UInt8) : Int × Bool × List UInt8 := eU (d2 s).1 []
noncomputable def qm (s : List UInt8) : Mk := ⟨(q1 s).1, (q2 s).1, (q3 s).1, (q4 s).1, (gO (d1 s).1 + 1).toNat, (q5 s).1, if (d2 s).2.1 = [] then 0 else (dq (d2 s).2.1).toNat⟩
set_option maxHeartbeats 8000000 in
theorem a5n {m : cD} {s : List UInt8} (h : bz m) (hn : m.n ≤ 40) (hnc : ∀ i, i < m.n → m.nc i ≤ 300) (hs : s.length ≤ 2000) : Good (fun v => v = acw 12 ∨ ∃ x : Mk, x.Ok ∧ Fits m x ∧ aQ m x = s ∧ v = a71 x) (db (r7.f (.nd m.av .lf (.nd (S s) .lf .lf)) .empty)) ∧
    ((q1 s).2.1 = true → (q2 s).2.1 = true → ¬ qi s < 0 → (q3 s).2.1 = true → (q4 s).2.1 = true → (d1 s).2.2 = true → (q5 s).2.1 = true → ¬ gO (d1 s).1 < 0 → ((d2 s).2.1 = [] ∨ ¬ dq (d2 s).2.1 < 1) → Fits m (qm s) → aQ m (qm s) = s → db (r7.f (.nd m.av .lf (.nd (S s) .lf .lf)) .empty) = some (a71 (qm s))) := by
  generalize hv : db (r7.f (.nd m.av .lf (.nd (S s) .lf .lf)) .empty) = v
  unfold qm q5 d2 d1 q4 q3 qj qi q2 q1
  have l1 := lg s [58, 32, 103, 111, 114, 111, 117, 116, 105, 110, 101, 32]
  have m1 := qh s [58, 32, 103, 111, 114, 111, 117, 116, 105, 110, 101, 32]
  generalize hP1 : eU s [58, 32, 103, 111, 114, 111, 117, 116, 105, 110, 101, 32] = P1 at *
  have l2 := lg P1.2.2 [32, 34]
  have m2 := qh P1.2.2 [32, 34]
  generalize hP2 : eU P1.2.2 [32, 34] = P2 at *
  have l3 := abi P2.2.2 [32, 97, 116, 32]
  generalize hI : Lib.lastIndex P2.2.2 [32, 97, 116, 32] = i at *
  have l4 := abi (P2.2.2.take i.toNat) [32]
  have l4b : (P2.2.2.take i.toNat).length ≤ P2.2.2.length := by rw [List.length_take]; omega
  have l4c : 0 ≤ i → ((P2.2.2.take i.toNat).length : Int) ≤ i := fun _ => by rw [List.length_take]; omega
  generalize hJ : Lib.lastIndex (P2.2.2.take i.toNat) [32] = j at *
  have l5 : ((P2.2.2.take i.toNat).drop (j + 1).toNat).length ≤ 2000 := by rw [List.length_drop]; omega
  have m3 := qh ((P2.2.2.take i.toNat).drop (j + 1).toNat) []
  have l5b := lg ((P2.2.2.take i.toNat).drop (j + 1).toNat) []
  generalize hP3 : eU ((P2.2.2.take i.toNat).drop (j + 1).toNat) [] = P3 at *
  have l6 : (P2.2.2.drop (i + 4).toNat).length ≤ 2000 := by rw [List.length_drop]; omega
  have m4 := qh (P2.2.2.drop (i + 4).toNat) [32]
  have l6b := lg (P2.2.2.drop (i + 4).toNat) [32]
  generalize hP4 : eU (P2.2.2.drop (i + 4).toNat) [32] = P4 at *
  have l7 := a1a P4.2.2 [44, 32, 102, 114, 97, 109, 101, 115, 32]
  generalize hC1 : Lib.cut P4.2.2 [44, 32, 102, 114, 97, 109, 101, 115, 32] = C1 at *
  have l8 := a1a C1.2.1 [44, 32]
  generalize hC2 : Lib.cut C1.2.1 [44, 32] = C2 at *
  have m5 := qh C2.1 []
  have l9 := lg C2.1 []
  generalize hP5 : eU C2.1 [] = P5 at *
  have o1 := a5k C1.1
  have o2 := a19 C2.2.1
  have e50 := c5i (x := ⟨P1.1, P2.1, P3.1, P4.1, (gO C1.1 + 1).toNat, P5.1, 0⟩) h hn hnc ⟨m1, m2, m3, m4, by show (gO C1.1 + 1).toNat < 256; omega, m5, by show (0 : Nat) < 256; omega⟩
  have e51 := c5i (x := ⟨P1.1, P2.1, P3.1, P4.1, (gO C1.1 + 1).toNat, P5.1, (dq C2.2.1).toNat⟩) h hn hnc ⟨m1, m2, m3, m4, by show (gO C1.1 + 1).toNat < 256; omega, m5, by show (dq C2.2.1).toNat < 256; omega⟩
  simp only [List.length_cons, List.length_nil, Nat.zero_add, Nat.reduceAdd] at l3 l4
  have k0 : Mk.Ok ⟨P1.1, P2.1, P3.1, P4.1, (gO C1.1 + 1).toNat, P5.1, 0⟩ := ⟨m1, m2, m3, m4, by show (gO C1.1 + 1).toNat < 256; omega, m5, by show (0 : Nat) < 256; omega⟩
  have k1 : Mk.Ok ⟨P1.1, P2.1, P3.1, P4.1, (gO C1.1 + 1).toNat, P5.1, (dq C2.2.1).toNat⟩ := ⟨m1, m2, m3, m4, by show (gO C1.1 + 1).toNat < 256; omega, m5, by show (dq C2.2.1).toNat < 256; omega⟩
  simp only [cD.av, Mk.av, Mk.l] at e50 e51 hv
  simp +contextual (maxSteps := 2000000) (disch := (first | omega | (simp only [Y2] <;> omega) | ((repeat' (first | exact ai | apply ab | apply aj | refine ah (by omega) ?_ ?_)) <;> (simp (disch := (first | omega | (simp only [Y5] <;> omega))) only [Y4, Nat.reduceAdd, Nat.reduceEqDiff, reduceIte, *])) | (simp (disch := omega) only [Y4, Nat.reduceAdd, Nat.reduceEqDiff, reduceIte]; done) | exact aN _ | exact aU _ | exact aT _ | exact aS _ | exact True.intro | rfl)) only [Y1, Y3, t7, a9s, vv, iK, ka, jM, iY, Int.reduceLT, Int.reduceLE, Int.reduceEq, Int.reduceNeg, Int.reduceToNat, bx, br, Nat.reduceAdd, Nat.reduceEqDiff, reduceIte, Nat.reduceLeDiff, Nat.reduceSub, c22e, a2E, c23, c24d, c25i, c26i, hP1, hP2, hI, hJ, hP3, hP4, hC1, hC2, hP5, e50, e51, apply_ite fin7, apply_ite db, ret7] at hv
  subst hv
  refine ⟨?_, ?_⟩
  · repeat' (refine abl (fun _ => ?_) (fun _ => ?_))
    all_goals first
      | exact ⟨_, rfl, .inl rfl⟩
      | (refine ⟨_, rfl, .inr ⟨⟨P1.1, P2.1, P3.1, P4.1, (gO C1.1 + 1).toNat, P5.1, 0⟩, k0, by assumption, by assumption, rfl⟩⟩)
      | (refine ⟨_, rfl, .inr ⟨⟨P1.1, P2.1, P3.1, P4.1, (gO C1.1 + 1).toNat, P5.1, (dq C2.2.1).toNat⟩, k1, by assumption, by assumption, rfl⟩⟩)
      | (exfalso; omega)
  · intro h1 h2 h3 h4 h5 h6 h7 h8 h9 h10 h11
    rw [if_neg (by omega), if_pos h1, if_pos h2, if_neg h3, if_neg h8]
    by_cases hw : C2.2.1 = []
    · rw [if_pos hw] at h10 h11 ⊢
      rw [if_pos h4, if_pos h5, if_pos h6, if_pos h7, if_pos h10, if_pos h11, if_pos hw]
      rfl
    · rw [if_neg hw] at h10 h11 ⊢
      rw [if_neg (h9.resolve_left hw), if_pos h4, if_pos h5, if_pos h6, if_pos h7, if_pos h10, if_pos h11, if_neg hw]
      rfl
theorem a7Z {m : cD} {s : List UInt8} (h : bz m) (hs : 2000 < s.length) (hs2 : s.length ≤ 100000) : db (r7.f (.nd m.av .lf (.nd (S s) .lf .lf)) .empty) = some (acw 4) := by
  simp only [cD.av]
  simp +contextual (maxSteps := 2000000) (disch := (first | omega | (simp only [Y2] <;> omega) | ((repeat' (first | exact ai | apply ab | apply aj | refine ah (by omega) ?_ ?_)) <;> (simp (disch := (first | omega | (simp only [Y5] <;> omega))) only [Y4, Nat.reduceAdd, Nat.reduceEqDiff, reduceIte, *])) | (simp (disch := omega) only [Y4, Nat.reduceAdd, Nat.reduceEqDiff, reduceIte]; done) | exact aN _ | exact aU _ | exact aT _ | exact aS _ | exact True.intro | rfl)) only [Y1, Y3, t7, Int.reduceLT, Int.reduceLE, Int.reduceEq, Int.reduceNeg, Int.reduceToNat, bx, br, Nat.reduceAdd, Nat.reduceEqDiff, reduceIte, Nat.reduceLeDiff, Nat.reduceSub, apply_ite fin7, apply_ite db, ret7]
  rw [if_pos (by omega)]
  rfl
end Go.Proofs.YtbamejikafhenaaDoor.Tz
namespace Go.Proofs.YtbamejikafhenaaDoor.Tz
noncomputable section
def adj : Sm := aC cr8 [1, 0, 1]
def dG : Sm := gT cr8 [1, 1, 1, 1, 1, 1, 0, 1, 0]
def sF : Fr → Hp → aa := iA cr8 [1, 1, 1, 1, 1, 1, 0, 1, 0]
def dK : aa → aa := gX cr8 [1, 1, 1, 1, 1, 1, 0, 1, 0]
def ef : Sm := aC cr8 [1, 1, 1, 1, 1, 1, 0, 1, 0, 0, 0, 1]
def ox : Sm := aC cr8 [1, 1, 1, 1, 1, 1, 0, 1]
def jN : Sm := aC cr8 [1, 1, 1, 1, 1, 1, 0, 1, 0, 0, 1, 0]
def iJ : Sm := aC cr8 [1, 1, 1, 1, 1, 1, 0, 1, 0, 0, 1, 0, 0, 1, 1, 1, 1, 0, 1]
def bf : Sm := gT cr8 [1, 1, 1, 1, 1, 1, 0, 1, 0, 0, 1, 0, 0, 1, 1, 1, 1, 1, 1, 1, 1, 0]
def eb : Fr → Hp → aa := iA cr8 [1, 1, 1, 1, 1, 1, 0, 1, 0, 0, 1, 0, 0, 1, 1, 1, 1, 1, 1, 1, 1, 0]
def bU : aa → aa := gX cr8 [1, 1, 1, 1, 1, 1, 0, 1, 0, 0, 1, 0, 0, 1, 1, 1, 1, 1, 1, 1, 1, 0]
def fm : Sm := aC cr8 [1, 1, 1, 1, 1, 1, 0, 1, 0, 0, 1, 0, 0, 1, 1, 1, 1, 1, 1, 1, 1, 0, 0, 0, 1]
def ew : Sm := aC cr8 [1, 1, 1, 1, 1, 1, 0, 1, 0, 0, 1, 0, 0, 1, 1, 1, 1, 1, 1, 1, 1]
def eH : Sm := aC cr8 [1, 1, 1, 1, 1, 1, 0, 1, 0, 0, 1, 0, 0, 1, 1, 1, 1, 1, 1, 1, 1, 0, 0, 1, 0, 0, 1, 1]
def fo : Sm := aC cr8 [1, 1, 1, 1, 1, 1, 0, 1, 0, 0, 1, 0, 0, 1, 1, 1, 1, 1, 1, 1, 1, 0, 0, 1, 0]
def fin8 : aa → aa := eN cr8
theorem t8 (x0 x1 : AV) (hp : Hp) : r8.f (.nd x0 .lf (.nd x1 .lf .lf)) hp = fin8 (cF mem (aY mem) x0 3 3 hp (fun v0 v1 => cF mem (aY mem) (AV.agg (aw [.int 3 0, .int 3 0, .int 3 0, .int 3 0, .int 4 0, .int 3 0, .int 4 0]) 7) 7 7 v1 (fun v2 v3 => cz mem 0 x1 v3 (fun v4 => ar (Nat.ble v4 9223372036854775807) ((ae .gtr 3).f (.int 3 v4) (.int 3 2000) (fun v5 => AV.ay v5 (fun v6 => when v6 (aH mem 7 v2 (AV.agg (aw [.int 3 0, .int 3 0, .int 3 0, .int 3 0, .int 4 0, .int 3 0, .int 4 0]) 7) v3 (fun v7 => .ret (.n x0 x1 v2 (.int 3 4) .uu v0 .uu .uu (.n .uu .uu .uu .uu .uu .uu .uu .uu .e)) v7)) ((adj).run .lf (.n x0 x1 v2 (.int 3 0) .uu v0 .uu .uu (.n .uu .uu .uu .uu .uu .uu .uu .uu .e)) v3)))))))) := (congrArg (fun F => bN.f F (.nd x0 .lf (.nd x1 .lf .lf)) hp) (ba cr8).symm).trans (by kernel_rfl)
theorem ret8 (x0 x1 x2 x3 x4 x5 x6 x7 x8 x9 x10 : AV) (hp : Hp) : fin8 (.ret (.n x0 x1 x2 x3 x4 x5 x6 x7 (.n x8 x9 x10 .uu .uu .uu .uu .uu .e)) hp) = aq mem true 7 x2 hp (fun v8 => .val (.bB (.nd v8 .lf (.nd x3 .lf .lf)) 2) hp) := by kernel_rfl
theorem a92 (x0 x1 x2 x3 x4 x5 x6 x7 x8 x9 x10 : AV) (hp : Hp) : (adj).run .lf (.n x0 x1 x2 x3 x4 x5 x6 x7 (.n x8 x9 x10 .uu .uu .uu .uu .uu .e)) hp = cF mem (aY mem) (AV.agg (aw [.int 3 0, .int 3 0, .int 3 0, .int 3 0, .int 4 0, .int 3 0, .int 4 0]) 7) 7 7 hp (fun v9 v10 => au mem false r27 (.nd x1 .lf .lf) v10 (fun v11 v12 => bg 0 v11 (fun v13 => bg 1 v11 (fun v14 => fieldAddr 0 v9 (fun v15 => aH mem 1 v15 v13 v12 (fun v16 => au mem false r28 (.nd v14 .lf (.nd (.int 3 12) .lf .lf)) v16 (fun v17 v18 => au mem false r27 (.nd v17 .lf .lf) v18 (fun v19 v20 => bg 0 v19 (fun v21 => bg 1 v19 (fun v22 => fieldAddr 1 v9 (fun v23 => aH mem 1 v23 v21 v20 (fun v24 => sF (.n x0 x1 x2 x3 (.int 3 0) x5 v9 v22 (.n x8 x9 x10 .uu .uu .uu .uu .uu .e)) v24)))))))))))) := by kernel_rfl
theorem nP (x0 x1 x2 x3 x4 x5 x6 x7 x8 x9 x10 : AV) (hp : Hp) : (dG).run .lf (.n x0 x1 x2 x3 x4 x5 x6 x7 (.n x8 x9 x10 .uu .uu .uu .uu .uu .e)) hp = fieldAddr 2 x5 (fun v25 => aq mem false 1 v25 hp (fun v26 => cz mem 1 v26 hp (fun v27 => ar (Nat.ble v27 9223372036854775807) ((ae .lss 3).f x4 (.int 3 v27) (fun v28 => AV.ay v28 (fun v29 => when v29 ((ef).run .lf (.n x0 x1 x2 x3 x4 x5 x6 x7 (.n x8 x9 x10 .uu .uu .uu .uu .uu .e)) hp) (.exit 0 (.n x0 x1 x2 x3 x4 x5 x6 x7 (.n x8 x9 x10 .uu .uu .uu .uu .uu .e)) hp))))))) := by kernel_rfl
theorem vh (fr : Fr) (hp : Hp) : sF fr hp = dK (aD dG 1000000 fr hp) := rfl
theorem xh (fr : Fr) (hp : Hp) : dK (.exit 0 fr hp) = (ox).run .lf fr hp := by kernel_rfl
theorem tP (fr : Fr) (hp : Hp) : dK (.ret fr hp) = .ret fr hp := by kernel_rfl
theorem qB (x0 x1 x2 x3 x4 x5 x6 x7 x8 x9 x10 : AV) (hp : Hp) : (ef).run .lf (.n x0 x1 x2 x3 x4 x5 x6 x7 (.n x8 x9 x10 .uu .uu .uu .uu .uu .e)) hp = aq mem true 7 x6 hp (fun v30 => cF mem (aY mem) (AV.agg (aw [.int 3 0, .int 3 0, .int 3 0, .int 3 0, .int 4 0, .int 3 0, .int 4 0]) 7) 7 7 hp (fun v31 v32 => aH mem 7 v31 v30 v32 (fun v33 => fieldAddr 2 v31 (fun v34 => aH mem 1 v34 x4 v33 (fun v35 => fieldAddr 2 x5 (fun v36 => aq mem false 1 v36 v35 (fun v37 => indexAddr 7 v37 x4 (fun v38 => fieldAddr 0 v38 (fun v39 => aq mem false 1 v39 v35 (fun v40 => au mem false r29 (.nd v40 .lf .lf) v35 (fun v41 v42 => (cx .add).f (S [32]) v41 (fun v43 => (cx .add).f v43 (S [32]) (fun v44 => au mem false r30 (.nd x4 .lf .lf) v42 (fun v45 v46 => (cx .add).f v44 v45 (fun v47 => (cx .add).f v47 (S [32, 97, 116, 32]) (fun v48 => cz mem 0 v48 v46 (fun v49 => ar (Nat.ble v49 9223372036854775807) (au mem false r28 (.nd x7 .lf (.nd (.int 3 v49) .lf .lf)) v46 (fun v50 v51 => au mem false r27 (.nd v50 .lf .lf) v51 (fun v52 v53 => bg 0 v52 (fun v54 => bg 1 v52 (fun v55 => fieldAddr 3 v31 (fun v56 => aH mem 1 v56 v54 v53 (fun v57 => eY 15 v57 (fun v58 => fieldAddr 3 v31 (fun v59 => aq mem false 1 v59 v58 (fun v60 => (ae .lss 3).f v60 (.int 3 0) (fun v61 => gd v61 false v58 (fun k62 => fieldAddr 3 v31 (fun v63 => k62 v63 v58)) (fun v64 v65 => gd v61 false v65 (fun k66 => aq mem false 1 v64 v65 (fun v67 => k66 v67 v65)) (fun v68 v69 => gd v61 false v69 (fun k70 => fieldAddr 2 x5 (fun v71 => k70 v71 v69)) (fun v72 v73 => gd v61 false v73 (fun k74 => aq mem false 1 v72 v73 (fun v75 => k74 v75 v73)) (fun v76 v77 => gd v61 false v77 (fun k78 => k78 x4 v77) (fun v79 v80 => gd v61 false v80 (fun k81 => indexAddr 7 v76 v79 (fun v82 => k81 v82 v80)) (fun v83 v84 => gd v61 false v84 (fun k85 => fieldAddr 4 v83 (fun v86 => k85 v86 v84)) (fun v87 v88 => gd v61 false v88 (fun k89 => aq mem false 1 v87 v88 (fun v90 => k89 v90 v88)) (fun v91 v92 => gd v61 false v92 (fun k93 => cz mem 1 v91 v92 (fun v94 => ar (Nat.ble v94 9223372036854775807) (k93 (.int 3 v94) v92))) (fun v95 v96 => gd v61 false v96 (fun k97 => (ae .geq 3).f v68 v95 (fun v98 => k97 v98 v96)) (fun v99 v100 => aI v61 (fun v101 => v101 (.bool true)) (fun v102 => v102 v99) (fun v103 => AV.ay v103 (fun v104 => when v104 ((jN).run .lf (.n x0 x1 x2 x3 x4 x5 x6 x7 (.n v31 v55 x10 .uu .uu .uu .uu .uu .e)) v100) ((iJ).run .lf (.n x0 x1 x2 x3 x4 x5 x6 x7 (.n v31 v55 x10 .uu .uu .uu .uu .uu .e)) v100))))))))))))))))))))))))))))))))))))))))) := by kernel_rfl
theorem wY (x0 x1 x2 x3 x4 x5 x6 x7 x8 x9 x10 : AV) (hp : Hp) : (ox).run .lf (.n x0 x1 x2 x3 x4 x5 x6 x7 (.n x8 x9 x10 .uu .uu .uu .uu .uu .e)) hp = aH mem 7 x2 (AV.agg (aw [.int 3 0, .int 3 0, .int 3 0, .int 3 0, .int 4 0, .int 3 0, .int 4 0]) 7) hp (fun v105 => .ret (.n x0 x1 x2 (.int 3 12) x4 x5 x6 x7 (.n x8 x9 x10 .uu .uu .uu .uu .uu .e)) v105) := by kernel_rfl
theorem ky (x0 x1 x2 x3 x4 x5 x6 x7 x8 x9 x10 : AV) (hp : Hp) : (jN).run .lf (.n x0 x1 x2 x3 x4 x5 x6 x7 (.n x8 x9 x10 .uu .uu .uu .uu .uu .e)) hp = (ae .add 3).f x4 (.int 3 1) (fun v106 => .ok (.n x0 x1 x2 x3 v106 x5 x6 x7 (.n x8 x9 x10 .uu .uu .uu .uu .uu .e)) hp) := by kernel_rfl
theorem lh (x0 x1 x2 x3 x4 x5 x6 x7 x8 x9 x10 : AV) (hp : Hp) : (iJ).run .lf (.n x0 x1 x2 x3 x4 x5 x6 x7 (.n x8 x9 x10 .uu .uu .uu .uu .uu .e)) hp = eY 13 hp (fun v107 => fieldAddr 2 x5 (fun v108 => aq mem false 1 v108 v107 (fun v109 => indexAddr 7 v109 x4 (fun v110 => fieldAddr 4 v110 (fun v111 => aq mem false 1 v111 v107 (fun v112 => fieldAddr 3 x8 (fun v113 => aq mem false 1 v113 v107 (fun v114 => indexAddr 4 v112 v114 (fun v115 => fieldAddr 0 v115 (fun v116 => aq mem false 1 v116 v107 (fun v117 => fieldAddr 4 x8 (fun v118 => cO mem .nil .nil v107 (fun h119 => aH mem 1 v118 v117 h119 (fun v120 => .val (.bB .lf 0) v120)) (fun v121 _ => fieldAddr 4 x8 (fun v123 => aq mem false 1 v123 v121 (fun v124 => au mem false r31 (.nd v124 .lf .lf) v121 (fun v125 v126 => (cx .add).f (S [32]) v125 (fun v127 => (cx .add).f v127 (S [44, 32, 102, 114, 97, 109, 101, 115, 32]) (fun v128 => cz mem 0 v128 v126 (fun v129 => ar (Nat.ble v129 9223372036854775807) (au mem false r28 (.nd x9 .lf (.nd (.int 3 v129) .lf .lf)) v126 (fun v130 v131 => au mem false r27 (.nd v130 .lf .lf) v131 (fun v132 v133 => bg 0 v132 (fun v134 => bg 1 v132 (fun _ => fieldAddr 5 x8 (fun v136 => aH mem 1 v136 v134 v133 (fun v137 => eb (.n x0 x1 x2 x3 x4 x5 x6 x7 (.n x8 x9 (.int 4 0) .uu .uu .uu .uu .uu .e)) v137)))))))))))))))))))))))))) := by kernel_rfl
theorem fp (x0 x1 x2 x3 x4 x5 x6 x7 x8 x9 x10 : AV) (hp : Hp) : (bf).run .lf (.n x0 x1 x2 x3 x4 x5 x6 x7 (.n x8 x9 x10 .uu .uu .uu .uu .uu .e)) hp = (ae .leq 4).f x10 (.int 4 8) (fun v138 => AV.ay v138 (fun v139 => when v139 ((fm).run .lf (.n x0 x1 x2 x3 x4 x5 x6 x7 (.n x8 x9 x10 .uu .uu .uu .uu .uu .e)) hp) (.exit 4 (.n x0 x1 x2 x3 x4 x5 x6 x7 (.n x8 x9 x10 .uu .uu .uu .uu .uu .e)) hp))) := by kernel_rfl
theorem jJ (fr : Fr) (hp : Hp) : eb fr hp = bU (aD bf 1000000 fr hp) := rfl
theorem kg (fr : Fr) (hp : Hp) : bU (.exit 4 fr hp) = (ew).run .lf fr hp := by kernel_rfl
theorem jk (fr : Fr) (hp : Hp) : bU (.ret fr hp) = .ret fr hp := by kernel_rfl
theorem iM (x0 x1 x2 x3 x4 x5 x6 x7 x8 x9 x10 : AV) (hp : Hp) : (fm).run .lf (.n x0 x1 x2 x3 x4 x5 x6 x7 (.n x8 x9 x10 .uu .uu .uu .uu .uu .e)) hp = fieldAddr 6 x8 (fun v140 => aH mem 1 v140 x10 hp (fun v141 => aq mem true 3 x5 v141 (fun v142 => aq mem true 7 x8 v141 (fun v143 => au mem false r14 (.nd v142 .lf (.nd v143 .lf .lf)) v141 (fun v144 v145 => (ae .eql 3).f v144 (.int 3 0) (fun v146 => gd v146 true v145 (fun k147 => aq mem true 3 x5 v145 (fun v148 => k147 v148 v145)) (fun v149 v150 => gd v146 true v150 (fun k151 => aq mem true 7 x8 v150 (fun v152 => k151 v152 v150)) (fun v153 v154 => gd v146 true v154 (fun k155 => au mem false r21 (.nd v149 .lf (.nd v153 .lf .lf)) v154 (fun v156 v157 => k155 v156 v157)) (fun v158 v159 => gd v146 true v159 (fun k160 => k160 x1 v159) (fun v161 v162 => gd v146 true v162 (fun k163 => (cx .eql).f v158 v161 (fun v164 => k163 v164 v162)) (fun v165 v166 => aI v146 (fun v167 => v167 v165) (fun v168 => v168 (.bool false)) (fun v169 => AV.ay v169 (fun v170 => when v170 (aq mem true 7 x8 v166 (fun v171 => aH mem 7 x2 v171 v166 (fun v172 => .ret (.n x0 x1 x2 (.int 3 0) x4 x5 x6 x7 (.n x8 x9 x10 .uu .uu .uu .uu .uu .e)) v172))) ((eH).run .lf (.n x0 x1 x2 x3 x4 x5 x6 x7 (.n x8 x9 x10 .uu .uu .uu .uu .uu .e)) v166)))))))))))))) := by kernel_rfl
theorem fG (x0 x1 x2 x3 x4 x5 x6 x7 x8 x9 x10 : AV) (hp : Hp) : (ew).run .lf (.n x0 x1 x2 x3 x4 x5 x6 x7 (.n x8 x9 x10 .uu .uu .uu .uu .uu .e)) hp = (jN).run .lf (.n x0 x1 x2 x3 x4 x5 x6 x7 (.n x8 x9 x10 .uu .uu .uu .uu .uu .e)) hp := by kernel_rfl
theorem gS (x0 x1 x2 x3 x4 x5 x6 x7 x8 x9 x10 : AV) (hp : Hp) : (eH).run .lf (.n x0 x1 x2 x3 x4 x5 x6 x7 (.n x8 x9 x10 .uu .uu .uu .uu .uu .e)) hp = (fo).run .lf (.n x0 x1 x2 x3 x4 x5 x6 x7 (.n x8 x9 x10 .uu .uu .uu .uu .uu .e)) hp := by kernel_rfl
theorem iL (x0 x1 x2 x3 x4 x5 x6 x7 x8 x9 x10 : AV) (hp : Hp) : (fo).run .lf (.n x0 x1 x2 x3 x4 x5 x6 x7 (.n x8 x9 x10 .uu .uu .uu .uu .uu .e)) hp = (ae .add 4).f x10 (.int 4 1) (fun v173 => .ok (.n x0 x1 x2 x3 x4 x5 x6 x7 (.n x8 x9 v173 .uu .uu .uu .uu .uu .e)) hp) := by kernel_rfl
end
set_option linter.defProp false
def Y11 := And.intro @a92 (And.intro @qB (And.intro @wY (And.intro @ky (And.intro @lh (And.intro @iM (And.intro @fG (And.intro @gS (@iL))))))))
end Go.Proofs.YtbamejikafhenaaDoor.Tz
namespace Go.Proofs.YtbamejikafhenaaDoor.Tz
attribute [local irreducible] mem
set_option linter.unusedSimpArgs false
attribute [local congr] di aJ bM dh dm bj de cm aW cf cn c9 bh bK bH aX eJ cg cb cj bm bk aK aO eG bG cq bL bO bD bF ck c7 bl bJ dd bE bI bC cN
theorem c21u {m : cD} {x : Mk} (h : bz m) (hn : m.n ≤ 40) (hx : x.Ok) (hp : Hp) (k : AV → Hp → aa) (hF : Fits m x) : au mem false r21 (.nd m.av .lf (.nd x.av .lf .lf)) hp k = k (S (aQ m x)) hp := c21 h hn hx hF hp k
theorem c14i {m : cD} {x : Mk} (h : bz m) (hn : m.n ≤ 40) (hnc : ∀ i, i < m.n → m.nc i ≤ 300) (hx : x.Ok) (hp : Hp) (k : AV → Hp → aa) : au mem false r14 (.nd m.av .lf (.nd x.av .lf .lf)) hp k = if Fits m x then k (I 0) hp else k (I 8) hp := by
  rw [c14 h hn hnc hx]
  split <;> rfl
noncomputable def w1 (s : List UInt8) : Int × List UInt8 := gZ s
noncomputable def w2 (s : List UInt8) : Int × List UInt8 := gZ ((w1 s).2.drop 12)
def a3V (m : cD) (f : Nat) : List UInt8 := [32] ++ j5 (m.nm f) ++ [32] ++ bo f ++ [32, 97, 116, 32]
noncomputable def w4 (m : cD) (s : List UInt8) (f : Nat) : Int × List UInt8 := gZ ((w2 s).2.drop (a3V m f).length)
noncomputable def wop (m : cD) (s : List UInt8) (f : Nat) : Nat := m.op f (w4 m s f).1.toNat
noncomputable def w5 (m : cD) (s : List UInt8) (f : Nat) : Int × List UInt8 := gZ ((w4 m s f).2.drop ([32] ++ cG (wop m s f) ++ [44, 32, 102, 114, 97, 109, 101, 115, 32]).length)
noncomputable def wm (m : cD) (s : List UInt8) (f out : Nat) : Mk := ⟨(w1 s).1, (w2 s).1, f, (w4 m s f).1, wop m s f, (w5 m s f).1, out⟩
end Go.Proofs.YtbamejikafhenaaDoor.Tz
namespace Go.Proofs.YtbamejikafhenaaDoor.Tz
attribute [local irreducible] mem
set_option linter.unusedSimpArgs false
attribute [local congr] di aJ bM dh dm bj de cm aW cf cn c9 bh bK bH aX eJ cg cb cj bm bk aK aO eG bG cq bL bO bD bF ck c7 bl bJ dd bE bI bC cN
set_option maxHeartbeats 8000000 in
theorem ahM {m : cD} {s : List UInt8} (h : bz m) (hn : m.n ≤ 40) (hnc : ∀ i, i < m.n → m.nc i ≤ 300) (hs : s.length ≤ 2000) {x : Mk} {o : Nat} (ho : o ≤ 8) (hx : Mk.Ok ⟨x.step, x.g, x.f, x.at', x.op, x.fr, o⟩) {N : Nat} (hN : 2 < N ∧ N ≤ 1000000) {hp : Hp} {p q : Bool} {c1 : List AV} {x3 x4 x6 x7 x9 v : AV} (hc1 : c1.length = 7) (hpr : hp.pr = [])
    (h0 : hp.at 0 = Bx p [m.ty, m.tx, m.fs]) (h1 : hp.at 1 = Bx q c1) (h2 : hp.at N = Bx true [I x.step, I x.g, I x.f, I x.at', B8 x.op, I x.fr, v]) :
    (Fits m ⟨x.step, x.g, x.f, x.at', x.op, x.fr, o⟩ ∧ aQ m ⟨x.step, x.g, x.f, x.at', x.op, x.fr, o⟩ = s → (bf).run .lf (.n m.av (S s) (.ptr 1 0) x3 x4 (.ptr 0 0) x6 x7 (.n (.ptr N 0) x9 (B8 o) .uu .uu .uu .uu .uu .e)) hp = .ret (.n m.av (S s) (.ptr 1 0) (I 0) x4 (.ptr 0 0) x6 x7 (.n (.ptr N 0) x9 (B8 o) .uu .uu .uu .uu .uu .e)) ((hp.dS N (Bx true [I x.step, I x.g, I x.f, I x.at', B8 x.op, I x.fr, B8 o])).dS 1 (Bx (bp q true) [I x.step, I x.g, I x.f, I x.at', B8 x.op, I x.fr, B8 o]))) ∧
    (¬ (Fits m ⟨x.step, x.g, x.f, x.at', x.op, x.fr, o⟩ ∧ aQ m ⟨x.step, x.g, x.f, x.at', x.op, x.fr, o⟩ = s) → (bf).run .lf (.n m.av (S s) (.ptr 1 0) x3 x4 (.ptr 0 0) x6 x7 (.n (.ptr N 0) x9 (B8 o) .uu .uu .uu .uu .uu .e)) hp = .ok (.n m.av (S s) (.ptr 1 0) x3 x4 (.ptr 0 0) x6 x7 (.n (.ptr N 0) x9 (B8 (o + 1)) .uu .uu .uu .uu .uu .e)) (hp.dS N (Bx true [I x.step, I x.g, I x.f, I x.at', B8 x.op, I x.fr, B8 o]))) := by
  have e14 := c14i h hn hnc hx
  have e21 := c21u h hn hx
  have hob : o < 256 := by omega
  generalize hr : (bf).run .lf (.n m.av (S s) (.ptr 1 0) x3 x4 (.ptr 0 0) x6 x7 (.n (.ptr N 0) x9 (B8 o) .uu .uu .uu .uu .uu .e)) hp = r
  simp only [cD.av, Mk.av, Mk.l] at e14 e21 hr ⊢
  simp +contextual (maxSteps := 2000000) (disch := (first | omega | (simp only [Y2, List.length_drop, List.length_take] <;> omega) | ((repeat' (first | exact ai | apply ab | apply aj | refine ah (by omega) ?_ ?_)) <;> (simp (disch := (first | omega | (simp only [Y5] <;> omega))) only [Y4, Nat.reduceAdd, Nat.reduceEqDiff, reduceIte, *])) | (simp (disch := omega) only [Y4, Nat.reduceAdd, Nat.reduceEqDiff, reduceIte]; done) | assumption | exact aN _ | exact aU _ | exact aT _ | exact aS _ | exact True.intro | rfl)) only [Y1, Y3, Y11, fp, Int.reduceLT, Int.reduceLE, Int.reduceEq, Int.reduceNeg, Int.reduceToNat, cV, bZ, cB, cL, Nat.reduceAdd, Nat.reduceEqDiff, reduceIte, Nat.reduceLeDiff, Nat.reduceSub, h0, h1, h2, e14, e21] at hr
  subst hr
  refine ⟨fun hy => ?_, fun hy => ?_⟩
  · rw [if_pos ho, if_pos hy.1, if_pos hy.2]
  · rw [if_pos ho, show (o + 1) % 256 = o + 1 by omega]
    by_cases hF : Fits m ⟨x.step, x.g, x.f, x.at', x.op, x.fr, o⟩
    · rw [if_pos hF, if_neg (fun hS => hy ⟨hF, hS⟩)]
    · rw [if_neg hF]
theorem iend8 {m : cD} {s : List UInt8} {hp : Hp} {x2 x3 x4 x5 x6 x7 x8 x9 : AV} : (bf).run .lf (.n m.av (S s) x2 x3 x4 x5 x6 x7 (.n x8 x9 (B8 9) .uu .uu .uu .uu .uu .e)) hp = .exit 4 (.n m.av (S s) x2 x3 x4 x5 x6 x7 (.n x8 x9 (B8 9) .uu .uu .uu .uu .uu .e)) hp := by
  simp +contextual (maxSteps := 2000000) (disch := (first | omega | (simp only [Y2, List.length_drop, List.length_take] <;> omega) | ((repeat' (first | exact ai | apply ab | apply aj | refine ah (by omega) ?_ ?_)) <;> (simp (disch := (first | omega | (simp only [Y5] <;> omega))) only [Y4, Nat.reduceAdd, Nat.reduceEqDiff, reduceIte, *])) | (simp (disch := omega) only [Y4, Nat.reduceAdd, Nat.reduceEqDiff, reduceIte]; done) | assumption | exact aN _ | exact aU _ | exact aT _ | exact aS _ | exact True.intro | rfl)) only [Y1, Y3, fp, Int.reduceLT, Int.reduceLE, Int.reduceEq, Int.reduceNeg, Int.reduceToNat, cV, bZ, cB, cL, Nat.reduceAdd, Nat.reduceEqDiff, reduceIte, Nat.reduceLeDiff, Nat.reduceSub]
theorem aa9 {m : cD} {s : List UInt8} (h : bz m) (hn : m.n ≤ 40) (hnc : ∀ i, i < m.n → m.nc i ≤ 300) (hs : s.length ≤ 2000) {x : Mk} (hx : ∀ o, o ≤ 8 → Mk.Ok ⟨x.step, x.g, x.f, x.at', x.op, x.fr, o⟩) {N : Nat} (hN : 2 < N ∧ N ≤ 1000000) {p q : Bool} {c1 : List AV} (x3 x4 x6 x7 x9 : AV) (hc1 : c1.length = 7) : ∀ (f o fuel : Nat) (hp : Hp) (v : AV), 9 - o = f → o ≤ 9 → f < fuel → hp.pr = [] → hp.at 0 = Bx p [m.ty, m.tx, m.fs] → hp.at 1 = Bx q c1 → hp.at N = Bx true [I x.step, I x.g, I x.f, I x.at', B8 x.op, I x.fr, v] →
    (∃ y : Mk, ∃ q' z hp', y.Ok ∧ Fits m y ∧ aQ m y = s ∧ hp'.at 1 = Bx q' y.l ∧ bU (aD bf fuel (.n m.av (S s) (.ptr 1 0) x3 x4 (.ptr 0 0) x6 x7 (.n (.ptr N 0) x9 (B8 o) .uu .uu .uu .uu .uu .e)) hp) = .ret (.n m.av (S s) (.ptr 1 0) (I 0) x4 (.ptr 0 0) x6 x7 (.n (.ptr N 0) x9 z .uu .uu .uu .uu .uu .e)) hp') ∨
    (∃ hp', hp'.nx = hp.nx ∧ hp'.pr = [] ∧ (∀ c, c ≠ N → hp'.at c = hp.at c) ∧ (∀ o', o ≤ o' → o' ≤ 8 → ¬ (Fits m ⟨x.step, x.g, x.f, x.at', x.op, x.fr, o'⟩ ∧ aQ m ⟨x.step, x.g, x.f, x.at', x.op, x.fr, o'⟩ = s)) ∧ bU (aD bf fuel (.n m.av (S s) (.ptr 1 0) x3 x4 (.ptr 0 0) x6 x7 (.n (.ptr N 0) x9 (B8 o) .uu .uu .uu .uu .uu .e)) hp) = (ew).run .lf (.n m.av (S s) (.ptr 1 0) x3 x4 (.ptr 0 0) x6 x7 (.n (.ptr N 0) x9 (B8 9) .uu .uu .uu .uu .uu .e)) hp')
  | f, o, 0, hp, v, _, _, hfu, _, _, _, _ => absurd hfu (Nat.not_lt_zero _)
  | f, o, fuel + 1, hp, v, hf, ho, hfu, hpr, h0, h1, h2 => by
    by_cases ho8 : o ≤ 8
    · have hb := ahM (x3 := x3) (x4 := x4) (x6 := x6) (x7 := x7) (x9 := x9) h hn hnc hs ho8 (hx o ho8) hN hc1 hpr h0 h1 h2
      by_cases hy : Fits m ⟨x.step, x.g, x.f, x.at', x.op, x.fr, o⟩ ∧ aQ m ⟨x.step, x.g, x.f, x.at', x.op, x.fr, o⟩ = s
      · exact .inl ⟨⟨x.step, x.g, x.f, x.at', x.op, x.fr, o⟩, bp q true, _, _, hx o ho8, hy.1, hy.2, cB (by omega), (congrArg bU (eQ (hb.1 hy))).trans (jk _ _)⟩
      · rcases aa9 h hn hnc hs hx hN x3 x4 x6 x7 x9 hc1 (f - 1) (o + 1) fuel (hp.dS N (Bx true [I x.step, I x.g, I x.f, I x.at', B8 x.op, I x.fr, B8 o])) (B8 o) (by omega) (by omega) (by omega) hpr (by rw [cL (by omega) (by omega)]; exact h0) (by rw [cL (by omega) (by omega)]; exact h1) (cB (by omega)) with ⟨y, q', z, hp', e1, e2, e3, e4, e5⟩ | ⟨hp', e1, e2, e3, e4, e5⟩
        · exact .inl ⟨y, q', z, hp', e1, e2, e3, e4, by rw [cY (hb.2 hy)]; exact e5⟩
        · refine .inr ⟨hp', e1, e2, fun c hc => by rw [e3 c hc, cL (by omega) hc], fun o' w1 w2 => ?_, by rw [cY (hb.2 hy)]; exact e5⟩
          by_cases hoo : o' = o
          · rw [hoo]; exact hy
          · exact e4 o' (by omega) w2
    · have ho9 : o = 9 := by omega
      subst ho9
      exact .inr ⟨hp, rfl, hpr, fun _ _ => rfl, fun o' w1 w2 => by omega, by rw [cE iend8, kg]⟩
end Go.Proofs.YtbamejikafhenaaDoor.Tz
namespace Go.Proofs.YtbamejikafhenaaDoor.Tz
attribute [local irreducible] mem
set_option linter.unusedSimpArgs false
attribute [local congr] di aJ bM dh dm bj de cm aW cf cn c9 bh bK bH aX eJ cg cb cj bm bk aK aO eG bG cq bL bO bD bF ck c7 bl bJ dd bE bI bC cN
theorem len_w (s : List UInt8) (hs : s.length ≤ 2000) : (w2 s).2.length ≤ 2000 := by
  have l1 := oq s
  have l2 := oq ((w1 s).2.drop 12)
  have : ((w1 s).2.drop 12).length ≤ (w1 s).2.length := by rw [List.length_drop]; omega
  have e1 : (w1 s).2.length ≤ s.length := l1
  have e2 : (w2 s).2.length ≤ ((w1 s).2.drop 12).length := l2
  omega
structure a2O (m : cD) (s : List UInt8) (hp : Hp) : Prop where
  pr : hp.pr = []
  nx : 2 < hp.nx
  h0 : ∃ p, hp.at 0 = Bx p [m.ty, m.tx, m.fs]
  h1 : ∃ q c1, c1.length = 7 ∧ hp.at 1 = Bx q c1
  h2 : hp.at 2 = Bx true [I (w1 s).1, I (w2 s).1, I 0, I 0, B8 0, I 0, B8 0]
set_option maxHeartbeats 8000000 in
theorem head8 {m : cD} {s : List UInt8} (h : bz m) (hn : m.n ≤ 40) (hnc : ∀ i, i < m.n → m.nc i ≤ 300) (hs : s.length ≤ 2000) {f : Nat} (hf : f < m.n) (hsz : (m.nm f).length ≤ 400) {hp : Hp} {x8 x9 x10 x2 : AV} (hi : a2O m s hp) (hnx : hp.nx ≤ 100000) :
    (∃ y8 y9 hp', hp'.nx = hp.nx + 16 ∧ a2O m s hp' ∧ ((w4 m s f).1 < 0 ∨ (m.nc f : Int) ≤ (w4 m s f).1) ∧ (ef).run .lf (.n m.av (S s) x2 (I 0) (I f) (.ptr 0 0) (.ptr 2 0) (S (w2 s).2) (.n x8 x9 x10 .uu .uu .uu .uu .uu .e)) hp = .ok (.n m.av (S s) x2 (I 0) (I (f + 1 : Nat)) (.ptr 0 0) (.ptr 2 0) (S (w2 s).2) (.n y8 y9 x10 .uu .uu .uu .uu .uu .e)) hp') ∨
    (∃ y9 hp', hp'.nx = hp.nx + 29 ∧ a2O m s hp' ∧ 0 ≤ (w4 m s f).1 ∧ (w4 m s f).1 < m.nc f ∧ hp'.at hp.nx = Bx true [I (w1 s).1, I (w2 s).1, I f, I (w4 m s f).1, B8 (wop m s f), I (w5 m s f).1, B8 0] ∧ (ef).run .lf (.n m.av (S s) x2 (I 0) (I f) (.ptr 0 0) (.ptr 2 0) (S (w2 s).2) (.n x8 x9 x10 .uu .uu .uu .uu .uu .e)) hp = eb (.n m.av (S s) x2 (I 0) (I f) (.ptr 0 0) (.ptr 2 0) (S (w2 s).2) (.n (.ptr hp.nx 0) y9 (B8 0) .uu .uu .uu .uu .uu .e)) hp') := by
  obtain ⟨hpr, hnx2, ⟨p, h0⟩, ⟨q, c1, hc1, h1⟩, h2⟩ := hi
  have l2b := len_w s hs
  have l3 := cA (f : Int)
  have l4 := kQ (m.nm f)
  have l6 : (w4 m s f).2.length ≤ 2000 := by
    have : (w4 m s f).2.length ≤ ((w2 s).2.drop (a3V m f).length).length := oq _
    rw [List.length_drop] at this; omega
  have r4 : -1 ≤ (w4 m s f).1 ∧ (w4 m s f).1 ≤ 100000 := qH _
  have b4 := hnc f hf
  have l8 := h.op f (w4 m s f).1.toNat hf
  have l9 := nk (m.op f (w4 m s f).1.toNat)
  generalize hr : (ef).run .lf (.n m.av (S s) x2 (I 0) (I f) (.ptr 0 0) (.ptr 2 0) (S (w2 s).2) (.n x8 x9 x10 .uu .uu .uu .uu .uu .e)) hp = r
  simp +contextual (maxSteps := 2000000) (disch := (first | omega | (simp only [Y2, List.length_drop, List.length_take] <;> omega) | ((repeat' (first | exact ai | apply ab | apply aj | refine ah (by omega) ?_ ?_)) <;> (simp (disch := (first | omega | (simp only [Y5] <;> omega))) only [Y4, Nat.reduceAdd, Nat.reduceEqDiff, reduceIte, *])) | (simp (disch := omega) only [Y4, Nat.reduceAdd, Nat.reduceEqDiff, reduceIte]; done) | assumption | exact aN _ | exact aU _ | exact aT _ | exact aS _ | exact True.intro | rfl)) only [Y1, Y3, Y11, Int.reduceLT, Int.reduceLE, Int.reduceEq, Int.reduceNeg, Int.reduceToNat, cV, bZ, cB, cL, Nat.reduceAdd, Nat.reduceEqDiff, reduceIte, Nat.reduceLeDiff, Nat.reduceSub, h0, h2, c27, c28, show gZ ((w2 s).2.drop ([32] ++ j5 (m.nm f) ++ [32] ++ bo (f : Int) ++ [32, 97, 116, 32]).length) = w4 m s f from rfl, show gZ ((w4 m s f).2.drop ([32] ++ cG (m.op f (w4 m s f).1.toNat) ++ [44, 32, 102, 114, 97, 109, 101, 115, 32]).length) = w5 m s f from rfl, c29, c30, c31, h.fs.len, h.fs.idx, a6k h.fr, yT h.fr, ua, a0G, h.sx, h.vH, h.a1M] at hr
  subst hr
  have inv : ∀ {H : Hp} (n : Nat), (∀ c, c ≠ hp.nx → H.at c = hp.at c) → H.pr = [] → H.nx = hp.nx + n → a2O m s H := fun n hc hp2 hn2 => ⟨hp2, by omega, ⟨p, by rw [hc 0 (by omega)]; exact h0⟩, ⟨q, c1, hc1, by rw [hc 1 (by omega)]; exact h1⟩, by rw [hc 2 (by omega)]; exact h2⟩
  by_cases hneg : (w4 m s f).1 < 0
  · rw [if_pos hneg]
    refine .inl ⟨_, _, _, ?_, ?_, .inl hneg, rfl⟩
    · rfl
    · exact inv 16 (fun c hc => by rw [mZ, cL (by omega) hc, bZ (by omega) hc]) hpr rfl
  rw [if_neg hneg]
  by_cases hbig : (m.nc f : Int) ≤ (w4 m s f).1
  · rw [if_pos hbig]
    refine .inl ⟨_, _, _, ?_, ?_, .inr hbig, rfl⟩
    · rfl
    · exact inv 16 (fun c hc => by rw [mZ, cL (by omega) hc, bZ (by omega) hc]) hpr rfl
  rw [if_neg hbig]
  refine .inr ⟨_, _, ?_, ?_, by omega, by omega, ?_, rfl⟩
  · rfl
  · exact inv 29 (fun c hc => by rw [cL (by omega) hc, agO, cL (by omega) hc, mZ, mZ, cL (by omega) hc, bZ (by omega) hc]) hpr rfl
  · exact cB (by omega)
end Go.Proofs.YtbamejikafhenaaDoor.Tz
