import Derived.Test.YtbamejikafhenaaDoorEvAN
import Derived.Test.YtbamejikafhenaaDoorEvAO
import Derived.Test.YtbamejikafhenaaDoorEvAP
import Derived.Test.YtbamejikafhenaaDoorEvAR
import Derived.Test.YtbamejikafhenaaDoorEvAS
import Derived.Test.YtbamejikafhenaaDoorEvAT
open Go Go.Proofs.YtbamejikafhenaaDoor.Ev
namespace Go.Proofs.YtbamejikafhenaaDoor.Tz
attribute [local irreducible] mem
set_option linter.unusedSimpArgs false
attribute [local congr] di aJ bM dh dm bj de cm aW cf cn c9 bh bK bH aX eJ cg cb cj bm bk aK aO eG bG cq bL bO bD bF ck c7 bl bJ dd bE bI bC cN
set_option maxHeartbeats 1000000
theorem wm_ok {m : cD} {s : List UInt8} {f : Nat} (h : bz m) (hf : f < m.n) (hn : m.n ≤ 40) (h0 : 0 ≤ (w4 m s f).1) (h1 : (w4 m s f).1 < m.nc f) (o : Nat) (ho : o ≤ 8) : (wm m s f o).Ok := by
  have r1 : -1 ≤ (w1 s).1 ∧ (w1 s).1 ≤ 100000 := qH _
  have r2 : -1 ≤ (w2 s).1 ∧ (w2 s).1 ≤ 100000 := qH _
  have r4 : -1 ≤ (w4 m s f).1 ∧ (w4 m s f).1 ≤ 100000 := qH _
  have r5 : -1 ≤ (w5 m s f).1 ∧ (w5 m s f).1 ≤ 100000 := qH _
  refine ⟨?_, ?_, ?_, ?_, ?_, ?_, ?_⟩
  · show gD (w1 s).1; unfold gD; omega
  · show gD (w2 s).1; unfold gD; omega
  · show gD ((f : Nat) : Int); unfold gD; omega
  · show gD (w4 m s f).1; unfold gD; omega
  · exact h.op f (w4 m s f).1.toNat hf (by omega)
  · show gD (w5 m s f).1; unfold gD; omega
  · show o < 256; omega
attribute [local irreducible] w1 w2 w4 w5 wop gZ
theorem a5x {m : cD} {s : List UInt8} (h : bz m) (hn : m.n ≤ 40) (hnc : ∀ i, i < m.n → m.nc i ≤ 300) (hnm : ∀ i, i < m.n → (m.nm i).length ≤ 40) (hs : s.length ≤ 2000) : ∀ (g f fuel : Nat) (hp : Hp) (x8 x9 x10 : AV), m.n - f = g → f ≤ m.n → g < fuel → a2O m s hp → hp.nx ≤ 1000 + 30 * f →
    (∃ y : Mk, ∃ q' z4 z8 z9 z10 hp', y.Ok ∧ Fits m y ∧ aQ m y = s ∧ hp'.at 1 = Bx q' y.l ∧ dK (aD dG fuel (.n m.av (S s) (.ptr 1 0) (I 0) (I f) (.ptr 0 0) (.ptr 2 0) (S (w2 s).2) (.n x8 x9 x10 .uu .uu .uu .uu .uu .e)) hp) = .ret (.n m.av (S s) (.ptr 1 0) (I 0) z4 (.ptr 0 0) (.ptr 2 0) (S (w2 s).2) (.n z8 z9 z10 .uu .uu .uu .uu .uu .e)) hp') ∨
    (∃ z4 z8 z9 z10 hp', a2O m s hp' ∧ (∀ f' o', f ≤ f' → f' < m.n → o' ≤ 8 → 0 ≤ (w4 m s f').1 → (w4 m s f').1 < m.nc f' → ¬ (Fits m (wm m s f' o') ∧ aQ m (wm m s f' o') = s)) ∧ dK (aD dG fuel (.n m.av (S s) (.ptr 1 0) (I 0) (I f) (.ptr 0 0) (.ptr 2 0) (S (w2 s).2) (.n x8 x9 x10 .uu .uu .uu .uu .uu .e)) hp) = (ox).run .lf (.n m.av (S s) (.ptr 1 0) (I 0) z4 (.ptr 0 0) (.ptr 2 0) (S (w2 s).2) (.n z8 z9 z10 .uu .uu .uu .uu .uu .e)) hp')
  | g, f, 0, hp, x8, x9, x10, _, _, hfu, _, _ => absurd hfu (Nat.not_lt_zero _)
  | g, f, fuel + 1, hp, x8, x9, x10, hg, hf, hfu, hi, hnx => by
    obtain ⟨p, hat0⟩ := hi.h0
    by_cases hfl : f < m.n
    · have hb : (dG).run .lf (.n m.av (S s) (.ptr 1 0) (I 0) (I f) (.ptr 0 0) (.ptr 2 0) (S (w2 s).2) (.n x8 x9 x10 .uu .uu .uu .uu .uu .e)) hp = (ef).run .lf (.n m.av (S s) (.ptr 1 0) (I 0) (I f) (.ptr 0 0) (.ptr 2 0) (S (w2 s).2) (.n x8 x9 x10 .uu .uu .uu .uu .uu .e)) hp := by
        simp +contextual (maxSteps := 2000000) (disch := (first | omega | (simp only [Y2, List.length_drop, List.length_take] <;> omega) | ((repeat' (first | exact ai | apply ab | apply aj | refine ah (by omega) ?_ ?_)) <;> (simp (disch := (first | omega | (simp only [Y5] <;> omega))) only [Y4, Nat.reduceAdd, Nat.reduceEqDiff, reduceIte, *])) | (simp (disch := omega) only [Y4, Nat.reduceAdd, Nat.reduceEqDiff, reduceIte]; done) | assumption | exact aN _ | exact aU _ | exact aT _ | exact aS _ | exact True.intro | rfl)) only [Y1, Y3, nP, Int.reduceLT, Int.reduceLE, Int.reduceEq, Int.reduceNeg, Int.reduceToNat, cV, bZ, cB, cL, Nat.reduceAdd, Nat.reduceEqDiff, reduceIte, Nat.reduceLeDiff, Nat.reduceSub, hat0, h.fs.len]
        rw [if_pos (by omega)]
      rcases head8 (x8 := x8) (x9 := x9) (x10 := x10) (x2 := .ptr 1 0) h hn hnc hs hfl (by have := hnm f hfl; omega) hi (by omega) with ⟨y8, y9, hp', e1, e2, e3, e4⟩ | ⟨y9, hp', e1, e2, e3, e4, e5, e6⟩
      · rw [e4] at hb
        rw [cY hb]
        rcases a5x h hn hnc hnm hs (g - 1) (f + 1) fuel hp' y8 y9 x10 (by omega) (by omega) (by omega) e2 (by omega) with r | ⟨z4, z8, z9, z10, hp2, r1, r2, r3⟩
        · exact .inl r
        · refine .inr ⟨z4, z8, z9, z10, hp2, r1, fun f' o' a1 a2 a3 a4 a5 => ?_, r3⟩
          by_cases hff : f' = f
          · subst hff; exact absurd a5 (by omega)
          · exact r2 f' o' (by omega) a2 a3 a4 a5
      · obtain ⟨p', hat0'⟩ := e2.h0
        obtain ⟨q, c1, hc1, hat1'⟩ := e2.h1
        rw [e6, jJ] at hb
        have hx : ∀ o, o ≤ 8 → Mk.Ok ⟨(wm m s f 0).step, (wm m s f 0).g, (wm m s f 0).f, (wm m s f 0).at', (wm m s f 0).op, (wm m s f 0).fr, o⟩ := fun o ho => wm_ok h hfl hn e3 e4 o ho
        have e5' : hp'.at hp.nx = Bx true [I (wm m s f 0).step, I (wm m s f 0).g, I (wm m s f 0).f, I (wm m s f 0).at', B8 (wm m s f 0).op, I (wm m s f 0).fr, B8 0] := e5
        have hN : 2 < hp.nx ∧ hp.nx ≤ 1000000 := ⟨hi.nx, by omega⟩
        rcases aa9 (x := wm m s f 0) h hn hnc hs hx hN (I 0) (I f) (.ptr 2 0) (S (w2 s).2) y9 hc1 9 0 1000000 hp' (B8 0) rfl (by omega) (by omega) e2.pr hat0' hat1' e5' with ⟨y, q', z, hp2, k1, k2, k3, k4, k5⟩ | ⟨hp2, k1, k2, k3, k4, k5⟩
        · have k5' := hb.trans k5
          exact .inl ⟨y, q', _, _, _, _, hp2, k1, k2, k3, k4, (congrArg dK (eQ k5')).trans (tP _ _)⟩
        · have hb2 : (dG).run .lf (.n m.av (S s) (.ptr 1 0) (I 0) (I f) (.ptr 0 0) (.ptr 2 0) (S (w2 s).2) (.n x8 x9 x10 .uu .uu .uu .uu .uu .e)) hp = .ok (.n m.av (S s) (.ptr 1 0) (I 0) (I (f + 1 : Nat)) (.ptr 0 0) (.ptr 2 0) (S (w2 s).2) (.n (.ptr hp.nx 0) y9 (B8 9) .uu .uu .uu .uu .uu .e)) hp2 := by
            refine (hb.trans k5).trans ?_
            rw [fG, ky, a0N, a6Y]; rfl
          have hi2 : a2O m s hp2 := ⟨k2, by rw [k1, e1]; omega, ⟨p', by rw [k3 0 (by omega)]; exact hat0'⟩, ⟨q, c1, hc1, by rw [k3 1 (by omega)]; exact hat1'⟩, by rw [k3 2 (by omega)]; exact e2.h2⟩
          rw [cY hb2]
          rcases a5x h hn hnc hnm hs (g - 1) (f + 1) fuel hp2 (.ptr hp.nx 0) y9 (B8 9) (by omega) (by omega) (by omega) hi2 (by omega) with r | ⟨z4, z8, z9, z10, hp3, r1, r2, r3⟩
          · exact .inl r
          · refine .inr ⟨z4, z8, z9, z10, hp3, r1, fun f' o' a1 a2 a3 a4 a5 => ?_, r3⟩
            by_cases hff : f' = f
            · subst hff; exact k4 o' (Nat.zero_le _) a3
            · exact r2 f' o' (by omega) a2 a3 a4 a5
    · have hf2 : f = m.n := by omega
      have hb : (dG).run .lf (.n m.av (S s) (.ptr 1 0) (I 0) (I f) (.ptr 0 0) (.ptr 2 0) (S (w2 s).2) (.n x8 x9 x10 .uu .uu .uu .uu .uu .e)) hp = .exit 0 (.n m.av (S s) (.ptr 1 0) (I 0) (I f) (.ptr 0 0) (.ptr 2 0) (S (w2 s).2) (.n x8 x9 x10 .uu .uu .uu .uu .uu .e)) hp := by
        simp +contextual (maxSteps := 2000000) (disch := (first | omega | (simp only [Y2, List.length_drop, List.length_take] <;> omega) | ((repeat' (first | exact ai | apply ab | apply aj | refine ah (by omega) ?_ ?_)) <;> (simp (disch := (first | omega | (simp only [Y5] <;> omega))) only [Y4, Nat.reduceAdd, Nat.reduceEqDiff, reduceIte, *])) | (simp (disch := omega) only [Y4, Nat.reduceAdd, Nat.reduceEqDiff, reduceIte]; done) | assumption | exact aN _ | exact aU _ | exact aT _ | exact aS _ | exact True.intro | rfl)) only [Y1, Y3, nP, Int.reduceLT, Int.reduceLE, Int.reduceEq, Int.reduceNeg, Int.reduceToNat, cV, bZ, cB, cL, Nat.reduceAdd, Nat.reduceEqDiff, reduceIte, Nat.reduceLeDiff, Nat.reduceSub, hat0, h.fs.len]
        rw [if_neg (by omega)]
      refine .inr ⟨_, _, _, _, hp, hi, fun f' o' a1 a2 => absurd a2 (by omega), (congrArg dK (cE hb)).trans (xh _ _)⟩
end Go.Proofs.YtbamejikafhenaaDoor.Tz
namespace Go.Proofs.YtbamejikafhenaaDoor.Tz
attribute [local irreducible] mem
set_option linter.unusedSimpArgs false
attribute [local congr] di aJ bM dh dm bj de cm aW cf cn c9 bh bK bH aX eJ cg cb cj bm bk aK aO eG bG cq bL bO bD bF ck c7 bl bJ dd bE bI bC cN
set_option maxHeartbeats 4000000
theorem aia (s : List UInt8) (hs : s.length ≤ 2000) : (w1 s).2.length ≤ 2000 := by
  have l1 := oq s
  have e1 : (w1 s).2.length ≤ s.length := l1
  omega
theorem eq_w1 (s : List UInt8) : gZ s = w1 s := rfl
theorem eq_w2 (s : List UInt8) : w1 ((w1 s).2.drop 12) = w2 s := rfl
theorem c28z {s : List UInt8} {z : Int} {hp : Hp} {k : AV → Hp → aa} (h : s.length ≤ 100000 ∧ 0 ≤ z ∧ z ≤ 100000) : au mem false r28 (.nd (S s) .lf (.nd (I z) .lf .lf)) hp k = k (S (s.drop z.toNat)) hp := by
  have e : z = ((z.toNat : Nat) : Int) := by omega
  rw [e, c28 ⟨h.1, by omega⟩, Int.toNat_natCast]
attribute [local irreducible] w1 w2 w4 w5 wop gZ
theorem a5K {m : cD} {s : List UInt8} (h : bz m) (hn : m.n ≤ 40) (hnc : ∀ i, i < m.n → m.nc i ≤ 300) (hnm : ∀ i, i < m.n → (m.nm i).length ≤ 40) (hs : s.length ≤ 2000) :
    (∃ x : Mk, x.Ok ∧ Fits m x ∧ aQ m x = s ∧ db (r8.f (.nd m.av .lf (.nd (S s) .lf .lf)) .empty) = some (a71 x)) ∨
    ((∀ f' o', f' < m.n → o' ≤ 8 → 0 ≤ (w4 m s f').1 → (w4 m s f').1 < m.nc f' → ¬ (Fits m (wm m s f' o') ∧ aQ m (wm m s f' o') = s)) ∧ db (r8.f (.nd m.av .lf (.nd (S s) .lf .lf)) .empty) = some (acw 12)) := by
  have l1 := aia s hs
  generalize hr : r8.f (.nd m.av .lf (.nd (S s) .lf .lf)) .empty = r
  simp only [cD.av] at hr
  simp +contextual (maxSteps := 2000000) (disch := (first | omega | (simp only [Y2, List.length_drop, List.length_take] <;> omega) | ((repeat' (first | exact ai | apply ab | apply aj | refine ah (by omega) ?_ ?_)) <;> (simp (disch := (first | omega | (simp only [Y5] <;> omega))) only [Y4, Nat.reduceAdd, Nat.reduceEqDiff, reduceIte, *])) | (simp (disch := omega) only [Y4, Nat.reduceAdd, Nat.reduceEqDiff, reduceIte]; done) | assumption | exact aN _ | exact aU _ | exact aT _ | exact aS _ | exact True.intro | rfl)) only [Y1, Y3, Y11, t8, Int.reduceLT, Int.reduceLE, Int.reduceEq, Int.reduceNeg, Int.reduceToNat, bx, br, Nat.reduceAdd, Nat.reduceEqDiff, reduceIte, Nat.reduceLeDiff, Nat.reduceSub, c27, c28z, eq_w1, eq_w2] at hr
  rw [if_neg (by omega)] at hr
  rw [vh] at hr
  have hav : AV.agg (aw [m.ty, m.tx, m.fs]) 3 = m.av := rfl
  rw [hav] at hr
  generalize hH : ((((Hp.empty.add (Bx (m.ty.pl && (m.tx.pl && (m.fs.pl && true))) [m.ty, m.tx, m.fs])).add (Bx true [I 0, I 0, I 0, I 0, B8 0, I 0, B8 0])).add (Bx true [I 0, I 0, I 0, I 0, B8 0, I 0, B8 0])).dS 2 (Bx true [I (w1 s).fst, I (w2 s).fst, I 0, I 0, B8 0, I 0, B8 0])) = H at hr
  have hInv : a2O m s H := by
    subst hH
    refine ⟨rfl, (show 2 < 3 by decide), ⟨(m.ty.pl && (m.tx.pl && (m.fs.pl && true))), ?_⟩, ⟨true, [I 0, I 0, I 0, I 0, B8 0, I 0, B8 0], rfl, ?_⟩, ?_⟩
    · rw [cL (by decide) (by decide), bZ (show 2 < 16777215 by decide) (show 0 ≠ 2 by decide), bZ (show 1 < 16777215 by decide) (show 0 ≠ 1 by decide)]
      exact cV (show 0 < 16777215 by decide) rfl
    · rw [cL (by decide) (by decide), bZ (show 2 < 16777215 by decide) (show 1 ≠ 2 by decide)]
      exact cV (show 1 < 16777215 by decide) rfl
    · exact cB (by decide)
  have hHn : H.nx = 3 := by subst hH; rfl
  rcases a5x h hn hnc hnm hs m.n 0 1000000 H .uu .uu .uu rfl (Nat.zero_le _) (by omega) hInv (by omega) with ⟨y, q', z4, z8, z9, z10, hp', k1, k2, k3, k4, k5⟩ | ⟨z4, z8, z9, z10, hp', k1, k2, k3⟩
  · have k5' : dK (aD dG 1000000 (.n m.av (S s) (.ptr 1 0) (I 0) (I 0) (.ptr 0 0) (.ptr 2 0) (S (w2 s).2) (.n .uu .uu .uu .uu .uu .uu .uu .uu .e)) H) = _ := k5
    rw [k5', ret8, aba (by decide), k4, a65 (n := 7) (l := y.l) rfl (show 2 ≤ 7 by decide)] at hr
    subst hr
    exact .inl ⟨y, k1, k2, k3, rfl⟩
  · have k3' : dK (aD dG 1000000 (.n m.av (S s) (.ptr 1 0) (I 0) (I 0) (.ptr 0 0) (.ptr 2 0) (S (w2 s).2) (.n .uu .uu .uu .uu .uu .uu .uu .uu .e)) H) = _ := k3
    obtain ⟨q, c1, hc1, h1⟩ := k1.h1
    have hpr := k1.pr
    rw [k3'] at hr
    refine .inr ⟨fun f' o' => k2 f' o' (Nat.zero_le _), ?_⟩
    simp +contextual (maxSteps := 2000000) (disch := (first | omega | (simp only [Y2, List.length_drop, List.length_take] <;> omega) | ((repeat' (first | exact ai | apply ab | apply aj | refine ah (by omega) ?_ ?_)) <;> (simp (disch := (first | omega | (simp only [Y5] <;> omega))) only [Y4, Nat.reduceAdd, Nat.reduceEqDiff, reduceIte, *])) | (simp (disch := omega) only [Y4, Nat.reduceAdd, Nat.reduceEqDiff, reduceIte]; done) | assumption | exact aN _ | exact aU _ | exact aT _ | exact aS _ | exact True.intro | rfl)) only [Y1, Y3, Y11, Int.reduceLT, Int.reduceLE, Int.reduceEq, Int.reduceNeg, Int.reduceToNat, cV, bZ, cB, cL, Nat.reduceAdd, Nat.reduceEqDiff, reduceIte, Nat.reduceLeDiff, Nat.reduceSub, h1, ret8] at hr
    subst hr
    rfl
theorem a7k {m : cD} {s : List UInt8} (hs : 2000 < s.length) (hs2 : s.length ≤ 100000) : db (r8.f (.nd m.av .lf (.nd (S s) .lf .lf)) .empty) = some (acw 4) := by
  simp only [cD.av]
  simp +contextual (maxSteps := 2000000) (disch := (first | omega | (simp only [Y2, List.length_drop, List.length_take] <;> omega) | ((repeat' (first | exact ai | apply ab | apply aj | refine ah (by omega) ?_ ?_)) <;> (simp (disch := (first | omega | (simp only [Y5] <;> omega))) only [Y4, Nat.reduceAdd, Nat.reduceEqDiff, reduceIte, *])) | (simp (disch := omega) only [Y4, Nat.reduceAdd, Nat.reduceEqDiff, reduceIte]; done) | assumption | exact aN _ | exact aU _ | exact aT _ | exact aS _ | exact True.intro | rfl)) only [Y1, Y3, t8, Int.reduceLT, Int.reduceLE, Int.reduceEq, Int.reduceNeg, Int.reduceToNat, bx, br, Nat.reduceAdd, Nat.reduceEqDiff, reduceIte, Nat.reduceLeDiff, Nat.reduceSub, apply_ite fin8, apply_ite db, ret8]
  rw [if_pos (by omega)]
  rfl
end Go.Proofs.YtbamejikafhenaaDoor.Tz
namespace Go.Proofs.YtbamejikafhenaaDoor.Tz
noncomputable section
def ac1 : aa → aa := eN cr33
theorem t33 (x0 : AV) (hp : Hp) : r33.f (.nd x0 .lf .lf) hp = ac1 (cF mem (aY mem) x0 3 3 hp (fun v0 v1 => fieldAddr 0 v0 (fun v2 => aq mem false 1 v2 v1 (fun v3 => (ae .geq 4).f v3 (.int 4 1) (fun v4 => gd v4 true v1 (fun k5 => fieldAddr 0 v0 (fun v6 => k5 v6 v1)) (fun v7 v8 => gd v4 true v8 (fun k9 => aq mem false 1 v7 v8 (fun v10 => k9 v10 v8)) (fun v11 v12 => gd v4 true v12 (fun k13 => (ae .leq 4).f v11 (.int 4 8) (fun v14 => k13 v14 v12)) (fun v15 v16 => aI v4 (fun v17 => v17 v15) (fun v18 => v18 (.bool false)) (fun v19 => gd v19 true v16 (fun k20 => fieldAddr 1 v0 (fun v21 => k20 v21 v16)) (fun v22 v23 => gd v19 true v23 (fun k24 => aq mem false 1 v22 v23 (fun v25 => k24 v25 v23)) (fun v26 v27 => gd v19 true v27 (fun k28 => (ae .geq 3).f v26 (.int 3 18446744073709551615) (fun v29 => k28 v29 v27)) (fun v30 v31 => aI v19 (fun v32 => v32 v30) (fun v33 => v33 (.bool false)) (fun v34 => gd v34 true v31 (fun k35 => fieldAddr 1 v0 (fun v36 => k35 v36 v31)) (fun v37 v38 => gd v34 true v38 (fun k39 => aq mem false 1 v37 v38 (fun v40 => k39 v40 v38)) (fun v41 v42 => gd v34 true v42 (fun k43 => (ae .lss 3).f v41 (.int 3 16) (fun v44 => k43 v44 v42)) (fun v45 v46 => aI v34 (fun v47 => v47 v45) (fun v48 => v48 (.bool false)) (fun v49 => gd v49 true v46 (fun k50 => fieldAddr 2 v0 (fun v51 => k50 v51 v46)) (fun v52 v53 => gd v49 true v53 (fun k54 => aq mem false 1 v52 v53 (fun v55 => k54 v55 v53)) (fun v56 v57 => gd v49 true v57 (fun k58 => (ae .geq 3).f v56 (.int 3 0) (fun v59 => k58 v59 v57)) (fun v60 v61 => aI v49 (fun v62 => v62 v60) (fun v63 => v63 (.bool false)) (fun v64 => gd v64 true v61 (fun k65 => fieldAddr 2 v0 (fun v66 => k65 v66 v61)) (fun v67 v68 => gd v64 true v68 (fun k69 => aq mem false 1 v67 v68 (fun v70 => k69 v70 v68)) (fun v71 v72 => gd v64 true v72 (fun k73 => (ae .leq 3).f v71 (.int 3 2000) (fun v74 => k73 v74 v72)) (fun v75 v76 => aI v64 (fun v77 => v77 v75) (fun v78 => v78 (.bool false)) (fun v79 => .ret (.n x0 v79 .uu .uu .uu .uu .uu .uu .e) v76))))))))))))))))))))))))) := (congrArg (fun F => bN.f F (.nd x0 .lf .lf) hp) (ba cr33).symm).trans (by kernel_rfl)
theorem ret33 (x0 x1 : AV) (hp : Hp) : ac1 (.ret (.n x0 x1 .uu .uu .uu .uu .uu .uu .e) hp) = .val x1 hp := by kernel_rfl
end
noncomputable section
def adv : aa → aa := eN cr35
theorem t35 (x0 : AV) (hp : Hp) : r35.f (.nd x0 .lf .lf) hp = adv (cF mem (aY mem) x0 3 3 hp (fun v0 v1 => fieldAddr 0 v0 (fun v2 => aq mem false 1 v2 v1 (fun v3 => (ae .geq 4).f v3 (.int 4 1) (fun v4 => gd v4 true v1 (fun k5 => fieldAddr 0 v0 (fun v6 => k5 v6 v1)) (fun v7 v8 => gd v4 true v8 (fun k9 => aq mem false 1 v7 v8 (fun v10 => k9 v10 v8)) (fun v11 v12 => gd v4 true v12 (fun k13 => (ae .leq 4).f v11 (.int 4 8) (fun v14 => k13 v14 v12)) (fun v15 v16 => aI v4 (fun v17 => v17 v15) (fun v18 => v18 (.bool false)) (fun v19 => gd v19 true v16 (fun k20 => fieldAddr 1 v0 (fun v21 => k20 v21 v16)) (fun v22 v23 => gd v19 true v23 (fun k24 => aq mem false 1 v22 v23 (fun v25 => k24 v25 v23)) (fun v26 v27 => gd v19 true v27 (fun k28 => (ae .geq 3).f v26 (.int 3 18446744073709551615) (fun v29 => k28 v29 v27)) (fun v30 v31 => aI v19 (fun v32 => v32 v30) (fun v33 => v33 (.bool false)) (fun v34 => gd v34 true v31 (fun k35 => fieldAddr 1 v0 (fun v36 => k35 v36 v31)) (fun v37 v38 => gd v34 true v38 (fun k39 => aq mem false 1 v37 v38 (fun v40 => k39 v40 v38)) (fun v41 v42 => gd v34 true v42 (fun k43 => (ae .lss 3).f v41 (.int 3 16) (fun v44 => k43 v44 v42)) (fun v45 v46 => aI v34 (fun v47 => v47 v45) (fun v48 => v48 (.bool false)) (fun v49 => gd v49 true v46 (fun k50 => fieldAddr 2 v0 (fun v51 => k50 v51 v46)) (fun v52 v53 => gd v49 true v53 (fun k54 => aq mem false 1 v52 v53 (fun v55 => k54 v55 v53)) (fun v56 v57 => gd v49 true v57 (fun k58 => (ae .geq 3).f v56 (.int 3 0) (fun v59 => k58 v59 v57)) (fun v60 v61 => aI v49 (fun v62 => v62 v60) (fun v63 => v63 (.bool false)) (fun v64 => gd v64 true v61 (fun k65 => fieldAddr 2 v0 (fun v66 => k65 v66 v61)) (fun v67 v68 => gd v64 true v68 (fun k69 => aq mem false 1 v67 v68 (fun v70 => k69 v70 v68)) (fun v71 v72 => gd v64 true v72 (fun k73 => (ae .leq 3).f v71 (.int 3 2000) (fun v74 => k73 v74 v72)) (fun v75 v76 => aI v64 (fun v77 => v77 v75) (fun v78 => v78 (.bool false)) (fun v79 => .ret (.n x0 v79 .uu .uu .uu .uu .uu .uu .e) v76))))))))))))))))))))))))) := (congrArg (fun F => bN.f F (.nd x0 .lf .lf) hp) (ba cr35).symm).trans (by kernel_rfl)
theorem ret35 (x0 x1 : AV) (hp : Hp) : adv (.ret (.n x0 x1 .uu .uu .uu .uu .uu .uu .e) hp) = .val x1 hp := by kernel_rfl
end
set_option linter.unusedSimpArgs false
attribute [local congr] di aJ bM dh dm bj de cm aW cf cn c9 bh bK bH aX eJ cg cb cj bm bk aK aO eG bG cq bL bO bD bF ck c7 bl bJ dd bE bI bC cN fK
theorem adh {o : Nat} {f u : Int} (hf : gD f) (hu : gD u) : db (r33.f (.nd (.agg (aw [B8 o, I f, I u]) 3) .lf .lf) .empty) = some (.bool (decide (1 ≤ o ∧ o ≤ 8 ∧ -1 ≤ f ∧ f < 16 ∧ 0 ≤ u ∧ u ≤ 2000))) := by
  have ⟨hf1, hf2⟩ := hf
  have ⟨hu1, hu2⟩ := hu
  simp +contextual (maxSteps := 2000000) (disch := (first | omega | (simp only [Y2, List.length_drop, List.length_take] <;> omega) | ((repeat' (first | exact ai | apply ab | apply aj | refine ah (by omega) ?_ ?_)) <;> (simp (disch := (first | omega | (simp only [Y5] <;> omega))) only [Y4, Nat.reduceAdd, Nat.reduceEqDiff, reduceIte, *])) | (simp (disch := omega) only [Y4, Nat.reduceAdd, Nat.reduceEqDiff, reduceIte]; done) | assumption | exact aN _ | exact aU _ | exact aT _ | exact aS _ | exact True.intro | rfl)) only [Y1, Y3, t33, Int.reduceLT, Int.reduceLE, Int.reduceEq, Int.reduceNeg, Int.reduceToNat, bx, br, Nat.reduceAdd, Nat.reduceEqDiff, reduceIte, Nat.reduceLeDiff, zk, zh, a0d, a9I, Nat.reduceSub, apply_ite ac1, apply_ite db, ret33]
  repeat' split
  all_goals (refine ad3 ?_; rw [Bool.eq_iff_iff]; simp only [decide_eq_true_eq, Bool.false_eq_true, false_iff]; omega)
theorem ahc {o : Nat} {f u : Int} (hf : gD f) (hu : gD u) : db (r35.f (.nd (.agg (aw [B8 o, I f, I u]) 3) .lf .lf) .empty) = some (.bool (decide (1 ≤ o ∧ o ≤ 8 ∧ -1 ≤ f ∧ f < 16 ∧ 0 ≤ u ∧ u ≤ 2000))) := by
  have ⟨hf1, hf2⟩ := hf
  have ⟨hu1, hu2⟩ := hu
  simp +contextual (maxSteps := 2000000) (disch := (first | omega | (simp only [Y2, List.length_drop, List.length_take] <;> omega) | ((repeat' (first | exact ai | apply ab | apply aj | refine ah (by omega) ?_ ?_)) <;> (simp (disch := (first | omega | (simp only [Y5] <;> omega))) only [Y4, Nat.reduceAdd, Nat.reduceEqDiff, reduceIte, *])) | (simp (disch := omega) only [Y4, Nat.reduceAdd, Nat.reduceEqDiff, reduceIte]; done) | assumption | exact aN _ | exact aU _ | exact aT _ | exact aS _ | exact True.intro | rfl)) only [Y1, Y3, t35, Int.reduceLT, Int.reduceLE, Int.reduceEq, Int.reduceNeg, Int.reduceToNat, bx, br, Nat.reduceAdd, Nat.reduceEqDiff, reduceIte, Nat.reduceLeDiff, zk, zh, a0d, a9I, Nat.reduceSub, apply_ite adv, apply_ite db, ret35]
  repeat' split
  all_goals (refine ad3 ?_; rw [Bool.eq_iff_iff]; simp only [decide_eq_true_eq, Bool.false_eq_true, false_iff]; omega)
end Go.Proofs.YtbamejikafhenaaDoor.Tz
namespace Go.Proofs.YtbamejikafhenaaDoor.Tz
noncomputable section
def aci : aa → aa := eN cr36
theorem t36 (x0 : AV) (hp : Hp) : r36.f (.nd x0 .lf .lf) hp = aci (cF mem (aY mem) x0 3 3 hp (fun v0 v1 => eY 15 v1 (fun v2 => fieldAddr 0 v0 (fun v3 => aq mem false 1 v3 v2 (fun v4 => fieldAddr 1 v0 (fun v5 => aq mem false 1 v5 v2 (fun v6 => fieldAddr 2 v0 (fun v7 => aq mem false 1 v7 v2 (fun v8 => cO mem .nil (.cons (fun v12 => v12 v7) (.cons (fun v13 => v13 v5) .nil)) v2 (fun h9 => au mem false r45 (.nd v4 .lf .lf) h9 (fun v10 v11 => .val v10 v11)) (fun v14 v15 => (cx .add).f (S [101, 110, 100, 101, 100, 32]) v15 (fun v16 => (cx .add).f v16 (S [44, 32, 102, 97, 105, 108, 105, 110, 103, 32]) (fun v17 => cO mem .nil (.cons (fun v21 => v21 v7) .nil) v14 (fun h18 => au mem false r30 (.nd v6 .lf .lf) h18 (fun v19 v20 => .val v19 v20)) (fun v22 v23 => (cx .add).f v17 v23 (fun v24 => (cx .add).f v24 (S [44, 32, 117, 115, 101, 100, 32]) (fun v25 => cO mem .nil .nil v22 (fun h26 => au mem false r30 (.nd v8 .lf .lf) h26 (fun v27 v28 => .val v27 v28)) (fun v29 v30 => (cx .add).f v25 v30 (fun v31 => .ret (.n x0 v31 .uu .uu .uu .uu .uu .uu .e) v29))))))))))))))))) := (congrArg (fun F => bN.f F (.nd x0 .lf .lf) hp) (ba cr36).symm).trans (by kernel_rfl)
theorem ret36 (x0 x1 : AV) (hp : Hp) : aci (.ret (.n x0 x1 .uu .uu .uu .uu .uu .uu .e) hp) = .val x1 hp := by kernel_rfl
end
noncomputable section
def aaW : aa → aa := eN cr38
theorem t38 (x0 : AV) (hp : Hp) : r38.f (.nd x0 .lf .lf) hp = aaW (cF mem (aY mem) (AV.agg (aw [.int 4 0, .int 3 0, .int 3 0]) 3) 3 3 hp (fun v0 v1 => au mem false r49 (.nd x0 .lf (.nd (S [101, 110, 100, 101, 100, 32]) .lf .lf)) v1 (fun v2 v3 => bg 0 v2 (fun v4 => bg 1 v2 (fun v5 => cF mem (aY mem) (S []) 1 1 v3 (fun v6 v7 => aH mem 1 v6 v4 v7 (fun v8 => aq mem false 1 v6 v8 (fun v9 => au mem false r24 (.nd v9 .lf (.nd (S [44, 32, 102, 97, 105, 108, 105, 110, 103, 32]) .lf .lf)) v8 (fun v10 v11 => bg 0 v10 (fun v12 => bg 1 v10 (fun v13 => bg 2 v10 (fun v14 => aH mem 1 v6 v13 v11 (fun v15 => au mem false r26 (.nd v12 .lf .lf) v15 (fun v16 v17 => bg 0 v16 (fun v18 => bg 1 v16 (fun v19 => au mem false r22 (.nd v6 .lf (.nd (S [44, 32, 117, 115, 101, 100, 32]) .lf .lf)) v17 (fun v20 v21 => bg 0 v20 (fun v22 => bg 1 v20 (fun v23 => au mem false r22 (.nd v6 .lf (.nd (S []) .lf .lf)) v21 (fun v24 v25 => bg 0 v24 (fun v26 => bg 1 v24 (fun v27 => vn 0 1 (.nd (.int 4 0) .lf (.nd (.int 3 0) .lf (.nd (.int 3 0) .lf .lf))) v18 (fun v28 => vn 1 1 v28 v22 (fun v29 => vn 2 1 v29 v26 (fun v30 => cF mem (aY mem) (AV.agg (aw [.int 4 0, .int 3 0, .int 3 0]) 3) 3 3 v25 (fun v31 v32 => aH mem 3 v31 (.agg v30 3) v32 (fun v33 => eY 25 v33 (fun v34 => aq mem true 3 v31 v34 (fun v35 => gd v5 true v34 (fun k36 => k36 v14 v34) (fun v37 v38 => aI v5 (fun v39 => v39 v37) (fun v40 => v40 (.bool false)) (fun v41 => gd v41 true v38 (fun k42 => k42 v23 v38) (fun v43 v44 => aI v41 (fun v45 => v45 v43) (fun v46 => v46 (.bool false)) (fun v47 => gd v47 true v44 (fun k48 => k48 v27 v44) (fun v49 v50 => aI v47 (fun v51 => v51 v49) (fun v52 => v52 (.bool false)) (fun v53 => gd v53 true v50 (fun k54 => aq mem false 1 v6 v50 (fun v55 => k54 v55 v50)) (fun v56 v57 => gd v53 true v57 (fun k58 => (cx .eql).f v56 (S []) (fun v59 => k58 v59 v57)) (fun v60 v61 => aI v53 (fun v62 => v62 v60) (fun v63 => v63 (.bool false)) (fun v64 => gd v64 true v61 (fun k65 => k65 v19 v61) (fun v66 v67 => gd v64 true v67 (fun k68 => (ae .eql 3).f v66 (.int 3 0) (fun v69 => k68 v69 v67)) (fun v70 v71 => aI v64 (fun v72 => v72 v70) (fun v73 => v73 (.bool false)) (fun v74 => gd v74 true v71 (fun k75 => aq mem true 3 v31 v71 (fun v76 => k75 v76 v71)) (fun v77 v78 => gd v74 true v78 (fun k79 => cO mem .nil (.cons (fun v83 => v83 v31) .nil) v78 (fun h80 => au mem false r33 (.nd v77 .lf .lf) h80 (fun v81 v82 => .val v81 v82)) (fun v84 v85 => k79 v85 v84)) (fun v86 v87 => aI v74 (fun v88 => v88 v86) (fun v89 => v89 (.bool false)) (fun v90 => cO mem .nil .nil v87 (fun h91 => aH mem 3 v0 v35 h91 (fun v92 => .val (.bB .lf 0) v92)) (fun v93 _ => .ret (.n x0 v0 v90 .uu .uu .uu .uu .uu .e) v93))))))))))))))))))))))))))))))))))))))))))))) := (congrArg (fun F => bN.f F (.nd x0 .lf .lf) hp) (ba cr38).symm).trans (by kernel_rfl)
theorem ret38 (x0 x1 x2 : AV) (hp : Hp) : aaW (.ret (.n x0 x1 x2 .uu .uu .uu .uu .uu .e) hp) = aq mem true 3 x1 hp (fun v95 => .val (.bB (.nd v95 .lf (.nd x2 .lf .lf)) 2) hp) := by kernel_rfl
end
noncomputable section
def ju : Sm := gT Go.Proofs.YtbamejikafhenaaDoor.Tz.y7 [1, 0, 1, 0]
def a2j : Fr → Hp → aa := iA Go.Proofs.YtbamejikafhenaaDoor.Tz.y7 [1, 0, 1, 0]
def kR : aa → aa := gX Go.Proofs.YtbamejikafhenaaDoor.Tz.y7 [1, 0, 1, 0]
def uI : Sm := aC Go.Proofs.YtbamejikafhenaaDoor.Tz.y7 [1, 0, 1, 0, 0, 0, 1]
def a1x : Sm := aC Go.Proofs.YtbamejikafhenaaDoor.Tz.y7 [1, 0, 1]
def lr : Sm := aC Go.Proofs.YtbamejikafhenaaDoor.Tz.y7 [1, 0, 1, 0, 0, 1, 0, 0, 1, 1, 1, 1, 1]
def uK : Sm := aC Go.Proofs.YtbamejikafhenaaDoor.Tz.y7 [1, 0, 1, 0, 0, 1, 0]
def ag4 : aa → aa := eN Go.Proofs.YtbamejikafhenaaDoor.Tz.y7
theorem t40 (x0 : AV) (hp : Hp) : r40.f (.nd x0 .lf .lf) hp = ag4 (cF mem (aY mem) (AV.agg (aw [.int 4 0, .int 3 0, .int 3 0]) 3) 3 3 hp (fun v0 v1 => a2j (.n x0 v0 (.bool false) (.int 4 1) .uu .uu .uu .uu .e) v1)) := (congrArg (fun F => bN.f F (.nd x0 .lf .lf) hp) (ba Go.Proofs.YtbamejikafhenaaDoor.Tz.y7).symm).trans (by kernel_rfl)
theorem agS (x0 x1 x2 x3 : AV) (hp : Hp) : ag4 (.ret (.n x0 x1 x2 x3 .uu .uu .uu .uu .e) hp) = aq mem true 3 x1 hp (fun v2 => .val (.bB (.nd v2 .lf (.nd x2 .lf .lf)) 2) hp) := by kernel_rfl
theorem uj (x0 x1 x2 x3 : AV) (hp : Hp) : (ju).run .lf (.n x0 x1 x2 x3 .uu .uu .uu .uu .e) hp = (ae .leq 4).f x3 (.int 4 8) (fun v3 => AV.ay v3 (fun v4 => when v4 ((uI).run .lf (.n x0 x1 x2 x3 .uu .uu .uu .uu .e) hp) (.exit 0 (.n x0 x1 x2 x3 .uu .uu .uu .uu .e) hp))) := by kernel_rfl
theorem a3I (fr : Fr) (hp : Hp) : a2j fr hp = kR (aD ju 1000000 fr hp) := rfl
theorem a4Y (fr : Fr) (hp : Hp) : kR (.exit 0 fr hp) = (a1x).run .lf fr hp := by kernel_rfl
theorem a0Q (fr : Fr) (hp : Hp) : kR (.ret fr hp) = .ret fr hp := by kernel_rfl
theorem yw (x0 x1 x2 x3 : AV) (hp : Hp) : (uI).run .lf (.n x0 x1 x2 x3 .uu .uu .uu .uu .e) hp = vn 0 1 (.nd (.int 4 0) .lf (.nd (.int 3 0) .lf (.nd (.int 3 0) .lf .lf))) x3 (fun v5 => cF mem (aY mem) (AV.agg (aw [.int 4 0, .int 3 0, .int 3 0]) 3) 3 3 hp (fun v6 v7 => aH mem 3 v6 (.agg v5 3) v7 (fun v8 => au mem false r45 (.nd x3 .lf .lf) v8 (fun v9 v10 => (cx .add).f (S [101, 110, 100, 101, 100, 32]) v9 (fun v11 => (cx .add).f v11 (S [44, 32, 102, 97, 105, 108, 105, 110, 103, 32]) (fun v12 => cz mem 0 v12 v10 (fun v13 => ar (Nat.ble v13 9223372036854775807) (au mem false r28 (.nd x0 .lf (.nd (.int 3 v13) .lf .lf)) v10 (fun v14 v15 => au mem false r27 (.nd v14 .lf .lf) v15 (fun v16 v17 => bg 0 v16 (fun v18 => bg 1 v16 (fun v19 => fieldAddr 1 v6 (fun v20 => aH mem 1 v20 v18 v17 (fun v21 => au mem false r28 (.nd v19 .lf (.nd (.int 3 7) .lf .lf)) v21 (fun v22 v23 => au mem false r27 (.nd v22 .lf .lf) v23 (fun v24 v25 => bg 0 v24 (fun v26 => bg 1 v24 (fun _ => fieldAddr 2 v6 (fun v28 => aH mem 1 v28 v26 v25 (fun v29 => aq mem true 3 v6 v29 (fun v30 => au mem false r35 (.nd v30 .lf .lf) v29 (fun v31 v32 => gd v31 true v32 (fun k33 => aq mem true 3 v6 v32 (fun v34 => k33 v34 v32)) (fun v35 v36 => gd v31 true v36 (fun k37 => au mem false r36 (.nd v35 .lf .lf) v36 (fun v38 v39 => k37 v38 v39)) (fun v40 v41 => gd v31 true v41 (fun k42 => k42 x0 v41) (fun v43 v44 => gd v31 true v44 (fun k45 => (cx .eql).f v40 v43 (fun v46 => k45 v46 v44)) (fun v47 v48 => aI v31 (fun v49 => v49 v47) (fun v50 => v50 (.bool false)) (fun v51 => AV.ay v51 (fun v52 => when v52 (aq mem true 3 v6 v48 (fun v53 => aH mem 3 x1 v53 v48 (fun v54 => .ret (.n x0 x1 (.bool true) x3 .uu .uu .uu .uu .e) v54))) ((lr).run .lf (.n x0 x1 x2 x3 .uu .uu .uu .uu .e) v48))))))))))))))))))))))))))))) := by kernel_rfl
theorem xm (x0 x1 x2 x3 : AV) (hp : Hp) : (a1x).run .lf (.n x0 x1 x2 x3 .uu .uu .uu .uu .e) hp = aH mem 3 x1 (AV.agg (aw [.int 4 0, .int 3 0, .int 3 0]) 3) hp (fun v55 => .ret (.n x0 x1 (.bool false) x3 .uu .uu .uu .uu .e) v55) := by kernel_rfl
theorem od (x0 x1 x2 x3 : AV) (hp : Hp) : (lr).run .lf (.n x0 x1 x2 x3 .uu .uu .uu .uu .e) hp = (uK).run .lf (.n x0 x1 x2 x3 .uu .uu .uu .uu .e) hp := by kernel_rfl
theorem xw (x0 x1 x2 x3 : AV) (hp : Hp) : (uK).run .lf (.n x0 x1 x2 x3 .uu .uu .uu .uu .e) hp = (ae .add 4).f x3 (.int 4 1) (fun v56 => .ok (.n x0 x1 x2 v56 .uu .uu .uu .uu .e) hp) := by kernel_rfl
end
attribute [local irreducible] mem
set_option linter.unusedSimpArgs false
attribute [local congr] di aJ bM dh dm bj de cm aW cf cn c9 bh bK bH aX eJ cg cb cj bm bk aK aO eG bG cq bL bO bD bF ck c7 bl bJ dd bE bI bC cN fK a2W
set_option maxHeartbeats 4000000
structure En where
  out : Nat
  fl : Int
  us : Int
def En.l (x : En) : List AV := [B8 x.out, I x.fl, I x.us]
def En.av (x : En) : AV := .agg (aw x.l) 3
structure En.Ok (x : En) : Prop where
  out : x.out < 256
  fl : gD x.fl
  us : gD x.us
def qc (x : En) : Prop := 1 ≤ x.out ∧ x.out ≤ 8 ∧ -1 ≤ x.fl ∧ x.fl < 16 ∧ 0 ≤ x.us ∧ x.us ≤ 2000
instance (x : En) : Decidable (qc x) := by unfold qc; infer_instance
def fk (x : En) : List UInt8 := [101, 110, 100, 101, 100, 32] ++ b9 x.out ++ [44, 32, 102, 97, 105, 108, 105, 110, 103, 32] ++ bo x.fl ++ [44, 32, 117, 115, 101, 100, 32] ++ bo x.us
theorem En.still {x : En} : Still x.av := jr (by rfl)
theorem c33 {o : Nat} {f u : Int} {hp : Hp} {k : AV → Hp → aa} (h : (-9223372036854775808 ≤ f ∧ f < 9223372036854775808) ∧ -9223372036854775808 ≤ u ∧ u < 9223372036854775808) : au mem false r33 (.nd (.agg (aw [B8 o, I f, I u]) 3) .lf .lf) hp k = k (.bool (decide (qc ⟨o, f, u⟩))) hp := eO (.nd (jr (by rfl)) .lf) (qL _).goes (adh h.1 h.2) hp k
theorem c35 {o : Nat} {f u : Int} {hp : Hp} {k : AV → Hp → aa} (h : (-9223372036854775808 ≤ f ∧ f < 9223372036854775808) ∧ -9223372036854775808 ≤ u ∧ u < 9223372036854775808) : au mem false r35 (.nd (.agg (aw [B8 o, I f, I u]) 3) .lf .lf) hp k = k (.bool (decide (qc ⟨o, f, u⟩))) hp := eO (.nd (jr (by rfl)) .lf) (qL _).goes (ahc h.1 h.2) hp k
theorem ahX {x : En} (hx : x.Ok) : db (r36.f (.nd x.av .lf .lf) .empty) = some (S (fk x)) := by
  obtain ⟨h1, ⟨h2, h3⟩, ⟨h4, h5⟩⟩ := hx
  have l1 := fO x.out
  have l2 := cA x.fl
  have l3 := cA x.us
  simp only [En.av, En.l]
  simp +contextual (maxSteps := 2000000) (disch := (first | omega | (simp only [Y2, List.length_drop, List.length_take] <;> omega) | ((repeat' (first | exact ai | apply ab | apply aj | refine ah (by omega) ?_ ?_)) <;> (simp (disch := (first | omega | (simp only [Y5] <;> omega))) only [Y4, Nat.reduceAdd, Nat.reduceEqDiff, reduceIte, *])) | (simp (disch := omega) only [Y4, Nat.reduceAdd, Nat.reduceEqDiff, reduceIte]; done) | assumption | exact aN _ | exact aU _ | exact aT _ | exact aS _ | exact True.intro | rfl)) only [Y1, Y3, t36, Int.reduceLT, Int.reduceLE, Int.reduceEq, Int.reduceNeg, Int.reduceToNat, bx, br, Nat.reduceAdd, Nat.reduceEqDiff, reduceIte, Nat.reduceLeDiff, zk, zh, a0d, a9I, Nat.reduceSub, c45, c30, apply_ite aci, apply_ite db, ret36]
  rfl
theorem c36 {o : Nat} {f u : Int} {hp : Hp} {k : AV → Hp → aa} (h : o < 256) (h2 : (-9223372036854775808 ≤ f ∧ f < 9223372036854775808) ∧ -9223372036854775808 ≤ u ∧ u < 9223372036854775808) : au mem false r36 (.nd (.agg (aw [B8 o, I f, I u]) 3) .lf .lf) hp k = k (S (fk ⟨o, f, u⟩)) hp := eO (.nd (jr (by rfl)) .lf) (aV _).goes (ahX (x := ⟨o, f, u⟩) ⟨h, h2.1, h2.2⟩) hp k
theorem c49d {s p : List UInt8} {hp : Hp} {k : AV → Hp → aa} (h : s.length ≤ 4294967280 ∧ p.length ≤ 4294967280) : au mem false r49 (.nd (S s) .lf (.nd (S p) .lf .lf)) hp k = k (.bB (.nd (S (Lib.trimPrefix s p)) .lf (.nd (.bool (decide (Lib.hasPrefix s p = true))) .lf .lf)) 2) hp := by
  rw [c49 h, Bool.decide_eq_true]
theorem adF (s p : List UInt8) : (Lib.trimPrefix s p).length ≤ s.length := by
  unfold Lib.trimPrefix
  split
  · rw [List.length_drop]; omega
  · exact Nat.le_refl _
noncomputable def v1 (s : List UInt8) : List UInt8 := Lib.trimPrefix s [101, 110, 100, 101, 100, 32]
noncomputable def v2 (s : List UInt8) : List UInt8 × List UInt8 × Bool := Lib.cut (v1 s) [44, 32, 102, 97, 105, 108, 105, 110, 103, 32]
noncomputable def v3 (s : List UInt8) : Int × Bool × List UInt8 := eU (v2 s).2.1 [44, 32, 117, 115, 101, 100, 32]
noncomputable def v4 (s : List UInt8) : Int × Bool × List UInt8 := eU (v3 s).2.2 []
noncomputable def vm (s : List UInt8) : En := ⟨(dq (v2 s).1).toNat, (v3 s).1, (v4 s).1⟩
def vOk (s : List UInt8) : Prop := ¬ dq (v2 s).1 < 1 ∧ Lib.hasPrefix s [101, 110, 100, 101, 100, 32] = true ∧ (v2 s).2.2 = true ∧ (v3 s).2.1 = true ∧ (v4 s).2.1 = true ∧ (v4 s).2.2 = [] ∧ qc (vm s)
theorem a8e {s : List UInt8} (hs : s.length ≤ 50000) : (vOk s → db (r38.f (.nd (S s) .lf .lf) .empty) = some (.bB (.nd (vm s).av .lf (.nd (.bool true) .lf .lf)) 2)) ∧ (¬ vOk s → ∃ x : En, db (r38.f (.nd (S s) .lf .lf) .empty) = some (.bB (.nd x.av .lf (.nd (.bool false) .lf .lf)) 2)) := by
  generalize hv : db (r38.f (.nd (S s) .lf .lf) .empty) = v
  unfold vOk vm v4 v3 v2 v1
  have l1 := adF s [101, 110, 100, 101, 100, 32]
  generalize hT : Lib.trimPrefix s [101, 110, 100, 101, 100, 32] = T at *
  have l2 := a1a T [44, 32, 102, 97, 105, 108, 105, 110, 103, 32]
  generalize hC : Lib.cut T [44, 32, 102, 97, 105, 108, 105, 110, 103, 32] = C at *
  have l3 := lg C.2.1 [44, 32, 117, 115, 101, 100, 32]
  have m1 := qh C.2.1 [44, 32, 117, 115, 101, 100, 32]
  generalize hP : eU C.2.1 [44, 32, 117, 115, 101, 100, 32] = P at *
  have l4 := lg P.2.2 []
  have m2 := qh P.2.2 []
  generalize hQ : eU P.2.2 [] = Q at *
  have o2 := a19 C.1
  simp +contextual (maxSteps := 2000000) (disch := (first | omega | (simp only [Y2, List.length_drop, List.length_take] <;> omega) | ((repeat' (first | exact ai | apply ab | apply aj | refine ah (by omega) ?_ ?_)) <;> (simp (disch := (first | omega | (simp only [Y5] <;> omega))) only [Y4, Nat.reduceAdd, Nat.reduceEqDiff, reduceIte, *])) | (simp (disch := omega) only [Y4, Nat.reduceAdd, Nat.reduceEqDiff, reduceIte]; done) | assumption | exact aN _ | exact aU _ | exact aT _ | exact aS _ | exact True.intro | rfl)) only [Y1, Y3, t38, Int.reduceLT, Int.reduceLE, Int.reduceEq, Int.reduceNeg, Int.reduceToNat, bx, br, Nat.reduceAdd, Nat.reduceEqDiff, reduceIte, Nat.reduceLeDiff, zk, zh, a0d, a9I, Nat.reduceSub, c49d, c24d, c26i, c22e, a2E, c33, hT, hC, hP, hQ, apply_ite aaW, apply_ite db, ret38] at hv
  subst hv
  refine ⟨fun ⟨h1, h2, h3, h4, h5, h6, h7⟩ => ?_, fun hno => ?_⟩
  · rw [if_neg h1, if_pos h2, if_pos h3, if_pos h4, if_pos h5, if_pos h6, decide_eq_true h7]; rfl
  · have key : ∀ {c : Prop} [Decidable c] {a b : Option AV}, (c → ∃ x : En, a = some (.bB (.nd x.av .lf (.nd (.bool false) .lf .lf)) 2)) → (¬c → ∃ x : En, b = some (.bB (.nd x.av .lf (.nd (.bool false) .lf .lf)) 2)) → ∃ x : En, (if c then a else b) = some (.bB (.nd x.av .lf (.nd (.bool false) .lf .lf)) 2) := by
      intro c _ a b h1 h2
      by_cases h : c
      · rw [if_pos h]; exact h1 h
      · rw [if_neg h]; exact h2 h
    repeat' (refine key (fun _ => ?_) (fun _ => ?_))
    all_goals first
      | exact ⟨⟨0, P.1, Q.1⟩, rfl⟩
      | exact ⟨⟨(dq C.1).toNat, P.1, Q.1⟩, rfl⟩
      | (refine ⟨⟨(dq C.1).toNat, P.1, Q.1⟩, ?_⟩
         rw [decide_eq_false (fun hR => hno ⟨by assumption, by assumption, by assumption, by assumption, by assumption, by assumption, hR⟩)]
         rfl)
end Go.Proofs.YtbamejikafhenaaDoor.Tz
namespace Go.Proofs.YtbamejikafhenaaDoor.Tz
attribute [local irreducible] mem
set_option linter.unusedSimpArgs false
attribute [local congr] di aJ bM dh dm bj de cm aW cf cn c9 bh bK bH aX eJ cg cb cj bm bk aK aO eG bG cq bL bO bD bF ck c7 bl bJ dd bE bI bC cN fK
set_option maxHeartbeats 4000000
noncomputable def u1 (s : List UInt8) (o : Nat) : Int × List UInt8 := gZ (s.drop ([101, 110, 100, 101, 100, 32] ++ b9 o ++ [44, 32, 102, 97, 105, 108, 105, 110, 103, 32]).length)
noncomputable def u2 (s : List UInt8) (o : Nat) : Int × List UInt8 := gZ ((u1 s o).2.drop 7)
noncomputable def um (s : List UInt8) (o : Nat) : En := ⟨o, (u1 s o).1, (u2 s o).1⟩
theorem eq_u1 (s : List UInt8) (o : Nat) : gZ (s.drop ([101, 110, 100, 101, 100, 32] ++ b9 o ++ [44, 32, 102, 97, 105, 108, 105, 110, 103, 32]).length) = u1 s o := rfl
theorem eq_u2 (s : List UInt8) (o : Nat) : gZ ((u1 s o).2.drop 7) = u2 s o := rfl
theorem ajr (s : List UInt8) (o : Nat) : (u1 s o).2.length ≤ s.length := by
  have : (u1 s o).2.length ≤ (s.drop ([101, 110, 100, 101, 100, 32] ++ b9 o ++ [44, 32, 102, 97, 105, 108, 105, 110, 103, 32]).length).length := oq _
  rw [List.length_drop] at this; omega
theorem u1_R (s : List UInt8) (o : Nat) : -1 ≤ (u1 s o).1 ∧ (u1 s o).1 ≤ 100000 := qH _
theorem u2_R (s : List UInt8) (o : Nat) : -1 ≤ (u2 s o).1 ∧ (u2 s o).1 ≤ 100000 := qH _
attribute [local irreducible] u1 u2 gZ
theorem ajm {s : List UInt8} {o : Nat} {x2 : AV} {hp : Hp} {q : Bool} {c : List AV} (hs : s.length ≤ 50000) (ho : o ≤ 8) (hpr : hp.pr = []) (hnx : 0 < hp.nx ∧ hp.nx ≤ 100000) (hc : c.length = 3) (h0 : hp.at 0 = Bx q c) :
    (qc (um s o) ∧ fk (um s o) = s → ∃ q' hp', hp'.at 0 = Bx q' (um s o).l ∧ (ju).run .lf (.n (S s) (.ptr 0 0) x2 (B8 o) .uu .uu .uu .uu .e) hp = .ret (.n (S s) (.ptr 0 0) (.bool true) (B8 o) .uu .uu .uu .uu .e) hp') ∧
    (¬ (qc (um s o) ∧ fk (um s o) = s) → ∃ hp', hp'.pr = [] ∧ hp'.nx = hp.nx + 1 ∧ hp'.at 0 = hp.at 0 ∧ (ju).run .lf (.n (S s) (.ptr 0 0) x2 (B8 o) .uu .uu .uu .uu .e) hp = .ok (.n (S s) (.ptr 0 0) x2 (B8 (o + 1)) .uu .uu .uu .uu .e) hp') := by
  have l1 := fO o
  have l2 := ajr s o
  have m1 := u1_R s o
  have m2 := u2_R s o
  have hob : o < 256 := by omega
  generalize hr : (ju).run .lf (.n (S s) (.ptr 0 0) x2 (B8 o) .uu .uu .uu .uu .e) hp = r
  simp +contextual (maxSteps := 2000000) (disch := (first | omega | (simp only [Y2, List.length_drop, List.length_take] <;> omega) | ((repeat' (first | exact ai | apply ab | apply aj | refine ah (by omega) ?_ ?_)) <;> (simp (disch := (first | omega | (simp only [Y5] <;> omega))) only [Y4, Nat.reduceAdd, Nat.reduceEqDiff, reduceIte, *])) | (simp (disch := omega) only [Y4, Nat.reduceAdd, Nat.reduceEqDiff, reduceIte]; done) | assumption | exact aN _ | exact aU _ | exact aT _ | exact aS _ | exact True.intro | rfl)) only [Y1, Y3, Y7, uj, yw, xm, od, xw, Int.reduceLT, Int.reduceLE, Int.reduceEq, Int.reduceNeg, Int.reduceToNat, Nat.reduceAdd, Nat.reduceEqDiff, reduceIte, Nat.reduceLeDiff, Nat.reduceSub, h0, c45, c27, c28z, c28, eq_u1, eq_u2, c35, c36] at hr
  subst hr
  have hN : hp.nx < 16777215 := by omega
  refine ⟨fun hy => ?_, fun hy => ?_⟩
  · refine ⟨bp q true, (((hp.add (Bx true [B8 0, I 0, I 0])).dS hp.nx (Bx true [B8 o, I (u1 s o).fst, I (u2 s o).fst])).dS 0 (Bx (bp q true) [B8 o, I (u1 s o).fst, I (u2 s o).fst])), cB (by decide), ?_⟩
    rw [if_pos ho, if_pos (show qc ⟨o, (u1 s o).1, (u2 s o).1⟩ from hy.1), if_pos (show fk ⟨o, (u1 s o).1, (u2 s o).1⟩ = s from hy.2)]
  · refine ⟨((hp.add (Bx true [B8 0, I 0, I 0])).dS hp.nx (Bx true [B8 o, I (u1 s o).fst, I (u2 s o).fst])), hpr, rfl, by rw [cL hN (by omega), bZ hN (by omega)], ?_⟩
    rw [if_pos ho, show (o + 1) % 256 = o + 1 by omega]
    by_cases hR : qc ⟨o, (u1 s o).1, (u2 s o).1⟩
    · rw [if_pos hR, if_neg (show ¬ fk ⟨o, (u1 s o).1, (u2 s o).1⟩ = s from fun h => hy ⟨hR, h⟩)]
    · rw [if_neg hR]
theorem acK {s : List UInt8} {x2 : AV} {q : Bool} {c : List AV} (hs : s.length ≤ 50000) (hc : c.length = 3) : ∀ (f o fuel : Nat) (hp : Hp), 9 - o = f → o ≤ 9 → f < fuel → hp.pr = [] → 0 < hp.nx → hp.nx ≤ 1000 + o → hp.at 0 = Bx q c →
    (∃ x : En, ∃ o' q' z hp', o ≤ o' ∧ o' ≤ 8 ∧ x = um s o' ∧ qc x ∧ fk x = s ∧ hp'.at 0 = Bx q' x.l ∧ kR (aD ju fuel (.n (S s) (.ptr 0 0) x2 (B8 o) .uu .uu .uu .uu .e) hp) = .ret (.n (S s) (.ptr 0 0) (.bool true) z .uu .uu .uu .uu .e) hp') ∨
    (∃ z hp', hp'.pr = [] ∧ hp'.at 0 = Bx q c ∧ (∀ o', o ≤ o' → o' ≤ 8 → ¬ (qc (um s o') ∧ fk (um s o') = s)) ∧ kR (aD ju fuel (.n (S s) (.ptr 0 0) x2 (B8 o) .uu .uu .uu .uu .e) hp) = (a1x).run .lf (.n (S s) (.ptr 0 0) x2 z .uu .uu .uu .uu .e) hp')
  | f, o, 0, hp, _, _, hfu, _, _, _, _ => absurd hfu (Nat.not_lt_zero _)
  | f, o, fuel + 1, hp, hf, ho, hfu, hpr, hn0, hnx, h0 => by
    by_cases ho8 : o ≤ 8
    · have hb := ajm (x2 := x2) hs ho8 hpr ⟨hn0, by omega⟩ hc h0
      by_cases hy : qc (um s o) ∧ fk (um s o) = s
      · obtain ⟨q', hp', e1, e2⟩ := hb.1 hy
        exact .inl ⟨um s o, o, q', _, hp', Nat.le_refl _, ho8, rfl, hy.1, hy.2, e1, (congrArg kR (eQ e2)).trans (a0Q _ _)⟩
      · obtain ⟨hp', e1, e2, e3, e4⟩ := hb.2 hy
        rw [cY e4]
        rcases acK hs hc (f - 1) (o + 1) fuel hp' (by omega) (by omega) (by omega) e1 (by omega) (by omega) (by rw [e3]; exact h0) with ⟨x, o', q', z, hp2, k1, k2, k3, k4, k5, k6, k7⟩ | ⟨z, hp2, k1, k2, k3, k4⟩
        · exact .inl ⟨x, o', q', z, hp2, by omega, k2, k3, k4, k5, k6, k7⟩
        · refine .inr ⟨z, hp2, k1, k2, fun o' w1 w2 => ?_, k4⟩
          by_cases hoo : o' = o
          · rw [hoo]; exact hy
          · exact k3 o' (by omega) w2
    · have ho9 : o = 9 := by omega
      subst ho9
      have hb : (ju).run .lf (.n (S s) (.ptr 0 0) x2 (B8 9) .uu .uu .uu .uu .e) hp = .exit 0 (.n (S s) (.ptr 0 0) x2 (B8 9) .uu .uu .uu .uu .e) hp := by
        simp +contextual (maxSteps := 2000000) (disch := (first | omega | (simp only [Y2, List.length_drop, List.length_take] <;> omega) | ((repeat' (first | exact ai | apply ab | apply aj | refine ah (by omega) ?_ ?_)) <;> (simp (disch := (first | omega | (simp only [Y5] <;> omega))) only [Y4, Nat.reduceAdd, Nat.reduceEqDiff, reduceIte, *])) | (simp (disch := omega) only [Y4, Nat.reduceAdd, Nat.reduceEqDiff, reduceIte]; done) | assumption | exact aN _ | exact aU _ | exact aT _ | exact aS _ | exact True.intro | rfl)) only [Y1, Y3, Y7, uj, Int.reduceLT, Int.reduceLE, Int.reduceEq, Int.reduceNeg, Int.reduceToNat, Nat.reduceAdd, Nat.reduceEqDiff, reduceIte, Nat.reduceLeDiff, Nat.reduceSub]
      exact .inr ⟨_, hp, hpr, h0, fun o' w1 w2 => by omega, (congrArg kR (cE hb)).trans (a4Y _ _)⟩
theorem a6N {s : List UInt8} (hs : s.length ≤ 50000) : (∃ x : En, qc x ∧ fk x = s ∧ db (r40.f (.nd (S s) .lf .lf) .empty) = some (.bB (.nd x.av .lf (.nd (.bool true) .lf .lf)) 2)) ∨
    ((∀ o', 1 ≤ o' → o' ≤ 8 → ¬ (qc (um s o') ∧ fk (um s o') = s)) ∧ db (r40.f (.nd (S s) .lf .lf) .empty) = some (.bB (.nd (En.av ⟨0, 0, 0⟩) .lf (.nd (.bool false) .lf .lf)) 2)) := by
  generalize hr : r40.f (.nd (S s) .lf .lf) .empty = r
  simp +contextual (maxSteps := 2000000) (disch := (first | omega | (simp only [Y2, List.length_drop, List.length_take] <;> omega) | ((repeat' (first | exact ai | apply ab | apply aj | refine ah (by omega) ?_ ?_)) <;> (simp (disch := (first | omega | (simp only [Y5] <;> omega))) only [Y4, Nat.reduceAdd, Nat.reduceEqDiff, reduceIte, *])) | (simp (disch := omega) only [Y4, Nat.reduceAdd, Nat.reduceEqDiff, reduceIte]; done) | assumption | exact aN _ | exact aU _ | exact aT _ | exact aS _ | exact True.intro | rfl)) only [Y1, Y3, t40, a3I, Int.reduceLT, Int.reduceLE, Int.reduceEq, Int.reduceNeg, Int.reduceToNat, bx, br, Nat.reduceAdd, Nat.reduceEqDiff, reduceIte, Nat.reduceLeDiff, zk, zh, a0d, a9I, Nat.reduceSub] at hr
  rcases acK (x2 := .bool false) (q := true) (c := [B8 0, I 0, I 0]) hs rfl 8 1 1000000 (Hp.empty.add (Bx true [B8 0, I 0, I 0])) rfl (by omega) (by omega) rfl (by show 0 < 1; decide) (by show 1 ≤ 1001; decide) (cV (show 0 < 16777215 by decide) rfl) with ⟨x, o', q', z, hp2, k1, k2, k3, k4, k5, k6, k7⟩ | ⟨z, hp2, k1, k2, k3, k4⟩
  · rw [k7, agS, aba (by decide), k6, a65 (n := 3) (l := x.l) rfl (show 2 ≤ 3 by decide)] at hr
    subst hr
    exact .inl ⟨x, k4, k5, rfl⟩
  · rw [k4] at hr
    simp +contextual (maxSteps := 2000000) (disch := (first | omega | (simp only [Y2, List.length_drop, List.length_take] <;> omega) | ((repeat' (first | exact ai | apply ab | apply aj | refine ah (by omega) ?_ ?_)) <;> (simp (disch := (first | omega | (simp only [Y5] <;> omega))) only [Y4, Nat.reduceAdd, Nat.reduceEqDiff, reduceIte, *])) | (simp (disch := omega) only [Y4, Nat.reduceAdd, Nat.reduceEqDiff, reduceIte]; done) | assumption | exact aN _ | exact aU _ | exact aT _ | exact aS _ | exact True.intro | rfl)) only [Y1, Y3, Y7, xm, Int.reduceLT, Int.reduceLE, Int.reduceEq, Int.reduceNeg, Int.reduceToNat, Nat.reduceAdd, Nat.reduceEqDiff, reduceIte, Nat.reduceLeDiff, Nat.reduceSub, k2, agS] at hr
    subst hr
    exact .inr ⟨k3, rfl⟩
end Go.Proofs.YtbamejikafhenaaDoor.Tz
namespace Go.Proofs.YtbamejikafhenaaDoor.Tz
noncomputable section
def fT : Sm := gT Go.Proofs.YtbamejikafhenaaDoor.Tz.xH [1, 1, 1, 0, 1, 0]
def xW : Fr → Hp → aa := iA Go.Proofs.YtbamejikafhenaaDoor.Tz.xH [1, 1, 1, 0, 1, 0]
def mI : aa → aa := gX Go.Proofs.YtbamejikafhenaaDoor.Tz.xH [1, 1, 1, 0, 1, 0]
def pY : Sm := aC Go.Proofs.YtbamejikafhenaaDoor.Tz.xH [1, 1, 1, 0, 1, 0, 0, 0, 1]
def sZ : Sm := aC Go.Proofs.YtbamejikafhenaaDoor.Tz.xH [1, 1, 1, 0, 1]
def jO : Sm := aC Go.Proofs.YtbamejikafhenaaDoor.Tz.xH [1, 1, 1, 0, 1, 0, 0, 1, 0, 0, 1]
def pV : Sm := aC Go.Proofs.YtbamejikafhenaaDoor.Tz.xH [1, 1, 1, 0, 1, 0, 0, 1, 0]
def agh : aa → aa := eN Go.Proofs.YtbamejikafhenaaDoor.Tz.xH
theorem t39 (x0 : AV) (hp : Hp) : r39.f (.nd x0 .lf .lf) hp = agh (xW (.n x0 (.x 8 .lf 0 0 0) (.bool false) (.int 3 0) (.x 8 .lf 0 0 0) (.int 3 0) .uu .uu .e) hp) := (congrArg (fun F => bN.f F (.nd x0 .lf .lf) hp) (ba Go.Proofs.YtbamejikafhenaaDoor.Tz.xH).symm).trans (by kernel_rfl)
theorem ret39 (x0 x1 x2 x3 x4 x5 : AV) (hp : Hp) : agh (.ret (.n x0 x1 x2 x3 x4 x5 .uu .uu .e) hp) = .val (.bB (.nd x1 .lf (.nd x2 .lf .lf)) 2) hp := by kernel_rfl
theorem qa (x0 x1 x2 x3 x4 x5 : AV) (hp : Hp) : (fT).run .lf (.n x0 x1 x2 x3 x4 x5 .uu .uu .e) hp = cz mem 0 x0 hp (fun v0 => ar (Nat.ble v0 9223372036854775807) ((ae .lss 3).f x3 (.int 3 v0) (fun v1 => AV.ay v1 (fun v2 => when v2 ((pY).run .lf (.n x0 x1 x2 x3 x4 x5 .uu .uu .e) hp) (.exit 0 (.n x0 x1 x2 x3 x4 x5 .uu .uu .e) hp))))) := by kernel_rfl
theorem yK (fr : Fr) (hp : Hp) : xW fr hp = mI (aD fT 1000000 fr hp) := rfl
theorem a0P (fr : Fr) (hp : Hp) : mI (.exit 0 fr hp) = (sZ).run .lf fr hp := by kernel_rfl
theorem tN (x0 x1 x2 x3 x4 x5 : AV) (hp : Hp) : (pY).run .lf (.n x0 x1 x2 x3 x4 x5 .uu .uu .e) hp = AV.ea x0 (fun v3 v4 => fP x3 v4 (fun v5 => bu 4 (Nat.mod (Nat.div v3 (Nat.pow 256 v5)) 256) (fun v6 => (ae .eql 4).f v6 (.int 4 10) (fun v7 => AV.ay v7 (fun v8 => when v8 (dj x0 (.some x5) (.some x3) (fun v9 => lL mem (aY mem) 1 (Tr.full (S []) 2) 1 1 (.cons (.mk 0 (fun v10 => v10 v9)) .nil) hp (fun v11 v12 => cR mem (aY mem) 1 x4 v11 v12 (fun v13 v14 => (ae .add 3).f x3 (.int 3 1) (fun v15 => (jO).run .lf (.n x0 x1 x2 x3 v13 v15 .uu .uu .e) v14))))) ((jO).run .lf (.n x0 x1 x2 x3 x4 x5 .uu .uu .e) hp)))))) := by kernel_rfl
theorem sg (x0 x1 x2 x3 x4 x5 : AV) (hp : Hp) : (sZ).run .lf (.n x0 x1 x2 x3 x4 x5 .uu .uu .e) hp = cz mem 0 x0 hp (fun v16 => ar (Nat.ble v16 9223372036854775807) ((ae .eql 3).f x5 (.int 3 v16) (fun v17 => .ret (.n x0 x4 v17 x3 x4 x5 .uu .uu .e) hp))) := by kernel_rfl
theorem qu (x0 x1 x2 x3 x4 x5 : AV) (hp : Hp) : (jO).run .lf (.n x0 x1 x2 x3 x4 x5 .uu .uu .e) hp = (pV).run .lf (.n x0 x1 x2 x3 x4 x5 .uu .uu .e) hp := by kernel_rfl
theorem tR (x0 x1 x2 x3 x4 x5 : AV) (hp : Hp) : (pV).run .lf (.n x0 x1 x2 x3 x4 x5 .uu .uu .e) hp = (ae .add 3).f x3 (.int 3 1) (fun v18 => .ok (.n x0 x1 x2 v18 x4 x5 .uu .uu .e) hp) := by kernel_rfl
end
attribute [local irreducible] mem
set_option linter.unusedSimpArgs false
attribute [local congr] di aJ bM dh dm bj de cm aW cf cn c9 bh bK bH aX eJ cg cb cj bm bk aK aO eG bG cq bL bO bD bF ck c7 bl bJ dd bE bI bC cN fK
set_option maxHeartbeats 4000000
theorem zD {c : UInt8} {l : List UInt8} : aR c (c :: l) = [] :: aR c l := by
  show (Bool.rec (motive := fun _ => List (List UInt8)) _ ([] :: aR c l) (Nat.beq c.toNat c.toNat)) = _
  rw [cu]
theorem uM {c b : UInt8} {l p : List UInt8} {r : List (List UInt8)} (h : b ≠ c) (e : aR c l = p :: r) : aR c (b :: l) = (b :: p) :: r := by
  show (Bool.rec (motive := fun _ => List (List UInt8)) (List.rec (motive := fun _ => List (List UInt8)) [[b]] (fun p r _ => (b :: p) :: r) (aR c l)) ([] :: aR c l) (Nat.beq b.toNat c.toNat)) = _
  rw [e, jb (fun h2 => h (UInt8.toNat_inj.1 h2))]
def pre (q : List UInt8) : List (List UInt8) → List (List UInt8)
  | [] => [q]
  | p :: r => (q ++ p) :: r
theorem aiF {s : List UInt8} {i f : Nat} {a x1 x2 : AV} {done : List (List UInt8)} {hp : Hp} (hs : s.length ≤ 5000) (hi : i < s.length) (hf : f ≤ i) (hpr : hp.pr = []) (hnx : hp.nx ≤ 2 * i) (ha : kj 1 hp a (done.map S)) (hd : done.length ≤ i) :
    (s.getD i 0 ≠ 10 → (fT).run .lf (.n (S s) x1 x2 (I i) a (I f) .uu .uu .e) hp = .ok (.n (S s) x1 x2 (I ((i : Int) + 1)) a (I f) .uu .uu .e) hp) ∧
    (s.getD i 0 = 10 → ∃ a' hp', kj 1 hp' a' ((done ++ [(s.take i).drop f]).map S) ∧ hp'.nx = hp.nx + 2 ∧ hp'.pr = [] ∧ (fT).run .lf (.n (S s) x1 x2 (I i) a (I f) .uu .uu .e) hp = .ok (.n (S s) x1 x2 (I ((i : Int) + 1)) a' (I ((i : Int) + 1)) .uu .uu .e) hp') := by
  obtain ⟨a', hp', g1, g2, g3, -, -, g4⟩ := a6C (Tr.full (S []) 2) (z := 1) (v := S ((s.take i).drop f)) ⟨Nat.le_refl 1, by omega⟩ (.inl ⟨rfl, True.intro, rfl⟩) ha (by omega) hpr (by rw [List.length_map]; omega)
  generalize hr : (fT).run .lf (.n (S s) x1 x2 (I i) a (I f) .uu .uu .e) hp = r
  simp +contextual (maxSteps := 2000000) (disch := (first | omega | (simp only [Y2, List.length_drop, List.length_take] <;> omega) | ((repeat' (first | exact ai | apply ab | apply aj | refine ah (by omega) ?_ ?_)) <;> (simp (disch := (first | omega | (simp only [Y5] <;> omega))) only [Y4, Nat.reduceAdd, Nat.reduceEqDiff, reduceIte, *])) | (simp (disch := omega) only [Y4, Nat.reduceAdd, Nat.reduceEqDiff, reduceIte]; done) | assumption | exact aN _ | exact aU _ | exact aT _ | exact aS _ | exact True.intro | rfl)) only [Y1, Y3, Y7, qa, tN, sg, qu, tR, Int.reduceLT, Int.reduceLE, Int.reduceEq, Int.reduceNeg, Int.reduceToNat, Nat.reduceAdd, Nat.reduceEqDiff, reduceIte, Nat.reduceLeDiff, Nat.reduceSub, g4] at hr
  subst hr
  have hlt : (i : Int) < s.length := by omega
  rw [if_pos hlt]
  refine ⟨fun h => if_neg fun h2 => h (UInt8.toNat_inj.1 h2), fun h => ?_⟩
  refine ⟨a', hp', ?_, g2, g3, if_pos (by rw [h]; rfl)⟩
  rw [List.map_append]; exact g1
theorem wh {s : List UInt8} {i f : Nat} (hi : i < s.length) (hf : f ≤ i) : (s.take (i + 1)).drop f = (s.take i).drop f ++ [s.getD i 0] := by
  rw [List.take_succ_eq_append_getElem hi, List.drop_append_of_le_length (by rw [List.length_take]; omega)]
  simp [List.getD, hi]
theorem a4V {s : List UInt8} {x1 x2 : AV} (hs : s.length ≤ 5000) : ∀ (n i f fuel : Nat) (a : AV) (done : List (List UInt8)) (hp : Hp), s.length - i = n → i ≤ s.length → f ≤ i → n < fuel → hp.pr = [] → hp.nx ≤ 2 * i → kj 1 hp a (done.map S) → done.length ≤ i →
    ∃ a' hp' done' f' z, kj 1 hp' a' (done'.map S) ∧ hp'.nx ≤ 2 * s.length ∧ f' ≤ s.length ∧ done' ++ [s.drop f'] = done ++ pre ((s.take i).drop f) (aR 10 (s.drop i)) ∧
      mI (aD fT fuel (.n (S s) x1 x2 (I i) a (I f) .uu .uu .e) hp) = (sZ).run .lf (.n (S s) x1 x2 z a' (I f') .uu .uu .e) hp'
  | n, i, f, 0, a, done, hp, _, _, _, hfu, _, _, _, _ => absurd hfu (Nat.not_lt_zero _)
  | n, i, f, fuel + 1, a, done, hp, hn, hi, hf, hfu, hpr, hnx, ha, hd => by
    by_cases hlt : i < s.length
    · have hb := aiF (x1 := x1) (x2 := x2) hs hlt hf hpr hnx ha hd
      have hc : s.drop i = s.getD i 0 :: s.drop (i + 1) := by
        rw [List.drop_eq_getElem_cons hlt]; simp [List.getD, hlt]
      by_cases h10 : s.getD i 0 = 10
      · obtain ⟨a', hp', g1, g2, g3, g4⟩ := hb.2 h10
        rw [cY g4]
        obtain ⟨a2, hp2, d2, f2, z, k1, k2, k3, k4, k5⟩ := a4V (x1 := x1) (x2 := x2) hs (n - 1) (i + 1) (i + 1) fuel a' (done ++ [(s.take i).drop f]) hp' (by omega) (by omega) (Nat.le_refl _) (by omega) g3 (by omega) g1 (by rw [List.length_append]; simp only [List.length_cons, List.length_nil]; omega)
        refine ⟨a2, hp2, d2, f2, z, k1, k2, k3, ?_, k5⟩
        rw [k4, hc, h10, zD]
        have e0 : (s.take (i + 1)).drop (i + 1) = [] := List.drop_eq_nil_of_le (by rw [List.length_take]; omega)
        rw [e0, List.append_assoc]
        congr 1
        have hl := iT 10 (s.drop (i + 1))
        show [_] ++ pre [] _ = (_ ++ []) :: _
        rw [List.append_nil]
        cases hq : aR 10 (s.drop (i + 1)) with
        | nil => rw [hq] at hl; exact absurd hl (by decide)
        | cons p r => rfl
      · rw [cY (hb.1 h10)]
        obtain ⟨a2, hp2, d2, f2, z, k1, k2, k3, k4, k5⟩ := a4V (x1 := x1) (x2 := x2) hs (n - 1) (i + 1) f fuel a done hp (by omega) (by omega) (by omega) (by omega) hpr (by omega) ha (by omega)
        refine ⟨a2, hp2, d2, f2, z, k1, k2, k3, ?_, k5⟩
        rw [k4, hc, wh hlt hf]
        congr 1
        have hl := iT 10 (s.drop (i + 1))
        cases hq : aR 10 (s.drop (i + 1)) with
        | nil => rw [hq] at hl; exact absurd hl (by decide)
        | cons p r =>
          rw [uM h10 hq]
          show (_ ++ [_] ++ p) :: r = (_ ++ (_ :: p)) :: r
          rw [List.append_assoc]; rfl
    · have hie : i = s.length := by omega
      have hb : (fT).run .lf (.n (S s) x1 x2 (I i) a (I f) .uu .uu .e) hp = .exit 0 (.n (S s) x1 x2 (I i) a (I f) .uu .uu .e) hp := by
        generalize hr : (fT).run .lf (.n (S s) x1 x2 (I i) a (I f) .uu .uu .e) hp = r
        simp +contextual (maxSteps := 2000000) (disch := (first | omega | (simp only [Y2, List.length_drop, List.length_take] <;> omega) | ((repeat' (first | exact ai | apply ab | apply aj | refine ah (by omega) ?_ ?_)) <;> (simp (disch := (first | omega | (simp only [Y5] <;> omega))) only [Y4, Nat.reduceAdd, Nat.reduceEqDiff, reduceIte, *])) | (simp (disch := omega) only [Y4, Nat.reduceAdd, Nat.reduceEqDiff, reduceIte]; done) | assumption | exact aN _ | exact aU _ | exact aT _ | exact aS _ | exact True.intro | rfl)) only [Y1, Y3, Y7, qa, Int.reduceLT, Int.reduceLE, Int.reduceEq, Int.reduceNeg, Int.reduceToNat, Nat.reduceAdd, Nat.reduceEqDiff, reduceIte, Nat.reduceLeDiff, Nat.reduceSub] at hr
        rw [← hr, if_neg (by omega)]
      refine ⟨a, hp, done, f, _, ha, by omega, by omega, ?_, (congrArg mI (cE hb)).trans (a0P _ _)⟩
      rw [hie, List.drop_length, List.take_length]
      show _ = done ++ [s.drop f ++ []]
      rw [List.append_nil]
theorem aib {s : List UInt8} (hs : s.length ≤ 5000) : ∃ a h ls last, kj 1 h a (ls.map S) ∧ h.nx ≤ 1000000 ∧ ls ++ [last] = aR 10 s ∧ r39.f (.nd (S s) .lf .lf) .empty = .val (.bB (.nd a .lf (aw [.bool (decide (last = []))])) 2) h := by
  generalize hr : r39.f (.nd (S s) .lf .lf) .empty = r
  simp +contextual (maxSteps := 2000000) (disch := (first | omega | (simp only [Y2, List.length_drop, List.length_take] <;> omega) | ((repeat' (first | exact ai | apply ab | apply aj | refine ah (by omega) ?_ ?_)) <;> (simp (disch := (first | omega | (simp only [Y5] <;> omega))) only [Y4, Nat.reduceAdd, Nat.reduceEqDiff, reduceIte, *])) | (simp (disch := omega) only [Y4, Nat.reduceAdd, Nat.reduceEqDiff, reduceIte]; done) | assumption | exact aN _ | exact aU _ | exact aT _ | exact aS _ | exact True.intro | rfl)) only [Y1, Y3, Y7, t39, yK, Int.reduceLT, Int.reduceLE, Int.reduceEq, Int.reduceNeg, Int.reduceToNat, Nat.reduceAdd, Nat.reduceEqDiff, reduceIte, Nat.reduceLeDiff, Nat.reduceSub] at hr
  obtain ⟨a, h, ls, f, z, k1, k2, k3, k4, k5⟩ := a4V (x1 := .x 8 .lf 0 0 0) (x2 := .bool false) hs s.length 0 0 1000000 (.x 8 .lf 0 0 0) [] .empty rfl (Nat.zero_le _) (Nat.le_refl _) (by omega) rfl (Nat.le_refl _) (.inl ⟨rfl, rfl⟩) (Nat.le_refl _)
  refine ⟨a, h, ls, s.drop f, k1, by omega, ?_, ?_⟩
  · rw [k4]
    show pre (List.drop 0 (List.take 0 s)) (aR 10 s) = aR 10 s
    have hl := iT 10 s
    cases hq : aR 10 s with
    | nil => rw [hq] at hl; exact absurd hl (by decide)
    | cons p r => rfl
  · have hr2 := hr
    rw [show (I 0) = I ((0 : Nat) : Int) from rfl, k5] at hr2
    simp +contextual (maxSteps := 2000000) (disch := (first | omega | (simp only [Y2, List.length_drop, List.length_take] <;> omega) | ((repeat' (first | exact ai | apply ab | apply aj | refine ah (by omega) ?_ ?_)) <;> (simp (disch := (first | omega | (simp only [Y5] <;> omega))) only [Y4, Nat.reduceAdd, Nat.reduceEqDiff, reduceIte, *])) | (simp (disch := omega) only [Y4, Nat.reduceAdd, Nat.reduceEqDiff, reduceIte]; done) | assumption | exact aN _ | exact aU _ | exact aT _ | exact aS _ | exact True.intro | rfl)) only [Y1, Y3, Y7, sg, Int.reduceLT, Int.reduceLE, Int.reduceEq, Int.reduceNeg, Int.reduceToNat, Nat.reduceAdd, Nat.reduceEqDiff, reduceIte, Nat.reduceLeDiff, Nat.reduceSub, ret39] at hr2
    rw [← hr2]
    have e : decide ((f : Int) = (s.length : Int)) = decide (s.drop f = []) := by
      congr 1
      rw [List.drop_eq_nil_iff]
      apply propext
      omega
    rw [e]; rfl
end Go.Proofs.YtbamejikafhenaaDoor.Tz
