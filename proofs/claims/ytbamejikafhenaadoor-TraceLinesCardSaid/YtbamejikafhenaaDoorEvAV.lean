import Derived.Test.YtbamejikafhenaaDoorEvAN
import Derived.Test.YtbamejikafhenaaDoorEvAO
import Derived.Test.YtbamejikafhenaaDoorEvAP
import Derived.Test.YtbamejikafhenaaDoorEvAR
import Derived.Test.YtbamejikafhenaaDoorEvAU
open Go Go.Proofs.YtbamejikafhenaaDoor.Ev
namespace Go.Proofs.YtbamejikafhenaaDoor.Tz
noncomputable section
def a7L : Sm := aC Go.Proofs.YtbamejikafhenaaDoor.Tz.rS [1, 0, 1]
def zR : Sm := aC Go.Proofs.YtbamejikafhenaaDoor.Tz.rS [1, 1, 1, 0, 1]
def u9 : Sm := aC Go.Proofs.YtbamejikafhenaaDoor.Tz.rS [1, 1, 1, 1, 1, 0, 1]
def cP : Sm := gT Go.Proofs.YtbamejikafhenaaDoor.Tz.rS [1, 1, 1, 1, 1, 1, 1, 0, 1, 0]
def oQ : Fr → Hp → aa := iA Go.Proofs.YtbamejikafhenaaDoor.Tz.rS [1, 1, 1, 1, 1, 1, 1, 0, 1, 0]
def dW : aa → aa := gX Go.Proofs.YtbamejikafhenaaDoor.Tz.rS [1, 1, 1, 1, 1, 1, 1, 0, 1, 0]
def lx : Sm := aC Go.Proofs.YtbamejikafhenaaDoor.Tz.rS [1, 1, 1, 1, 1, 1, 1, 0, 1, 0, 0, 0, 1]
def lC : Sm := aC Go.Proofs.YtbamejikafhenaaDoor.Tz.rS [1, 1, 1, 1, 1, 1, 1, 0, 1]
def iR : Sm := aC Go.Proofs.YtbamejikafhenaaDoor.Tz.rS [1, 1, 1, 1, 1, 1, 1, 0, 1, 0, 0, 1, 0, 0, 1, 0, 1]
def lA : Sm := aC Go.Proofs.YtbamejikafhenaaDoor.Tz.rS [1, 1, 1, 1, 1, 1, 1, 0, 1, 0, 0, 1, 0]
def a7u : aa → aa := eN Go.Proofs.YtbamejikafhenaaDoor.Tz.rS
theorem t12 (x0 x1 : AV) (hp : Hp) : r12.f (.nd x0 .lf (.nd x1 .lf .lf)) hp = a7u (cF mem (aY mem) x0 3 3 hp (fun v0 v1 => cF mem (aY mem) (AV.agg (aw [.int 4 0, .int 3 0, .int 3 0]) 3) 3 3 v1 (fun v2 v3 => cz mem 0 x1 v3 (fun v4 => ar (Nat.ble v4 9223372036854775807) ((ae .gtr 3).f (.int 3 v4) (.int 3 300000) (fun v5 => AV.ay v5 (fun v6 => when v6 (aH mem 3 v2 (AV.agg (aw [.int 4 0, .int 3 0, .int 3 0]) 3) v3 (fun v7 => .ret (.n x0 x1 (.x 8 .lf 0 0 0) v2 (.int 3 4) .uu .uu v0 (.n .uu .uu .uu .uu .uu .uu .uu .uu .e)) v7)) ((a7L).run .lf (.n x0 x1 (.x 8 .lf 0 0 0) v2 (.int 3 0) .uu .uu v0 (.n .uu .uu .uu .uu .uu .uu .uu .uu .e)) v3)))))))) := (congrArg (fun F => bN.f F (.nd x0 .lf (.nd x1 .lf .lf)) hp) (ba Go.Proofs.YtbamejikafhenaaDoor.Tz.rS).symm).trans (by kernel_rfl)
theorem a2y (x0 x1 x2 x3 x4 x5 x6 x7 x8 x9 x10 : AV) (hp : Hp) : a7u (.ret (.n x0 x1 x2 x3 x4 x5 x6 x7 (.n x8 x9 x10 .uu .uu .uu .uu .uu .e)) hp) = aq mem true 3 x3 hp (fun v8 => .val (.bB (.nd x2 .lf (.nd v8 .lf (.nd x4 .lf .lf))) 3) hp) := by kernel_rfl
theorem ny (x0 x1 x2 x3 x4 x5 x6 x7 x8 x9 x10 : AV) (hp : Hp) : (a7L).run .lf (.n x0 x1 x2 x3 x4 x5 x6 x7 (.n x8 x9 x10 .uu .uu .uu .uu .uu .e)) hp = au mem false r39 (.nd x1 .lf .lf) hp (fun v9 v10 => bg 0 v9 (fun v11 => bg 1 v9 (fun v12 => AV.ay v12 (fun v13 => gd (.bool (dv v13)) false v10 (fun k14 => k14 v11 v10) (fun v15 v16 => gd (.bool (dv v13)) false v16 (fun k17 => cz mem 1 v15 v16 (fun v18 => ar (Nat.ble v18 9223372036854775807) (k17 (.int 3 v18) v16))) (fun v19 v20 => gd (.bool (dv v13)) false v20 (fun k21 => (ae .eql 3).f v19 (.int 3 0) (fun v22 => k21 v22 v20)) (fun v23 v24 => aI (.bool (dv v13)) (fun v25 => v25 (.bool true)) (fun v26 => v26 v23) (fun v27 => gd v27 false v24 (fun k28 => k28 v11 v24) (fun v29 v30 => gd v27 false v30 (fun k31 => cz mem 1 v29 v30 (fun v32 => ar (Nat.ble v32 9223372036854775807) (k31 (.int 3 v32) v30))) (fun v33 v34 => gd v27 false v34 (fun k35 => (ae .gtr 3).f v33 (.int 3 2001) (fun v36 => k35 v36 v34)) (fun v37 v38 => aI v27 (fun v39 => v39 (.bool true)) (fun v40 => v40 v37) (fun v41 => AV.ay v41 (fun v42 => when v42 (aH mem 3 x3 (AV.agg (aw [.int 4 0, .int 3 0, .int 3 0]) 3) v38 (fun v43 => .ret (.n x0 x1 (.x 8 .lf 0 0 0) x3 (.int 3 12) v11 x6 x7 (.n x8 x9 x10 .uu .uu .uu .uu .uu .e)) v43)) ((zR).run .lf (.n x0 x1 x2 x3 x4 v11 x6 x7 (.n x8 x9 x10 .uu .uu .uu .uu .uu .e)) v38)))))))))))))) := by kernel_rfl
theorem iI (x0 x1 x2 x3 x4 x5 x6 x7 x8 x9 x10 : AV) (hp : Hp) : (zR).run .lf (.n x0 x1 x2 x3 x4 x5 x6 x7 (.n x8 x9 x10 .uu .uu .uu .uu .uu .e)) hp = cz mem 1 x5 hp (fun v44 => ar (Nat.ble v44 9223372036854775807) ((ae .sub 3).f (.int 3 v44) (.int 3 1) (fun v45 => indexAddr 1 x5 v45 (fun v46 => aq mem false 1 v46 hp (fun v47 => au mem false r40 (.nd v47 .lf .lf) hp (fun v48 v49 => bg 0 v48 (fun v50 => bg 1 v48 (fun v51 => cF mem (aY mem) (AV.agg (aw [.int 4 0, .int 3 0, .int 3 0]) 3) 3 3 v49 (fun v52 v53 => aH mem 3 v52 v50 v53 (fun v54 => AV.ay v51 (fun v55 => when (dv v55) (aH mem 3 x3 (AV.agg (aw [.int 4 0, .int 3 0, .int 3 0]) 3) v54 (fun v56 => .ret (.n x0 x1 (.x 8 .lf 0 0 0) x3 (.int 3 12) x5 x6 x7 (.n x8 x9 v52 .uu .uu .uu .uu .uu .e)) v56)) ((u9).run .lf (.n x0 x1 x2 x3 x4 x5 x6 x7 (.n x8 x9 v52 .uu .uu .uu .uu .uu .e)) v54)))))))))))) := by kernel_rfl
theorem ig (x0 x1 x2 x3 x4 x5 x6 x7 x8 x9 x10 : AV) (hp : Hp) : (u9).run .lf (.n x0 x1 x2 x3 x4 x5 x6 x7 (.n x8 x9 x10 .uu .uu .uu .uu .uu .e)) hp = oQ (.n x0 x1 x2 x3 x4 x5 (.int 3 0) x7 (.n (.x 8 .lf 0 0 0) x9 x10 .uu .uu .uu .uu .uu .e)) hp := by kernel_rfl
theorem ij (x0 x1 x2 x3 x4 x5 x6 x7 x8 x9 x10 : AV) (hp : Hp) : (cP).run .lf (.n x0 x1 x2 x3 x4 x5 x6 x7 (.n x8 x9 x10 .uu .uu .uu .uu .uu .e)) hp = cz mem 1 x5 hp (fun v57 => ar (Nat.ble v57 9223372036854775807) ((ae .sub 3).f (.int 3 v57) (.int 3 1) (fun v58 => (ae .lss 3).f x6 v58 (fun v59 => AV.ay v59 (fun v60 => when v60 ((lx).run .lf (.n x0 x1 x2 x3 x4 x5 x6 x7 (.n x8 x9 x10 .uu .uu .uu .uu .uu .e)) hp) (.exit 0 (.n x0 x1 x2 x3 x4 x5 x6 x7 (.n x8 x9 x10 .uu .uu .uu .uu .uu .e)) hp)))))) := by kernel_rfl
theorem ry (fr : Fr) (hp : Hp) : oQ fr hp = dW (aD cP 1000000 fr hp) := rfl
theorem th (fr : Fr) (hp : Hp) : dW (.exit 0 fr hp) = (lC).run .lf fr hp := by kernel_rfl
theorem qz (fr : Fr) (hp : Hp) : dW (.ret fr hp) = .ret fr hp := by kernel_rfl
theorem fM (x0 x1 x2 x3 x4 x5 x6 x7 x8 x9 x10 : AV) (hp : Hp) : (lx).run .lf (.n x0 x1 x2 x3 x4 x5 x6 x7 (.n x8 x9 x10 .uu .uu .uu .uu .uu .e)) hp = eY 12 hp (fun v61 => aq mem true 3 x7 v61 (fun v62 => indexAddr 1 x5 x6 (fun v63 => aq mem false 1 v63 v61 (fun v64 => cF mem (jR mem 9) (AV.agg (aw [.int 3 0, .int 3 0, .int 3 0, .int 3 0, .int 4 0, .int 3 0, .int 4 0]) 7) 7 7 v61 (fun v65 v66 => cO mem (.cons 9 .nil) .nil v66 (fun h67 => au mem false r8 (.nd v62 .lf (.nd v64 .lf .lf)) h67 (fun v68 v69 => .val v68 v69)) (fun v70 v71 => bg 0 v71 (fun v72 => bg 1 v71 (fun v73 => cO mem .nil .nil v70 (fun h74 => aH mem 7 v65 v72 h74 (fun v75 => .val (.bB .lf 0) v75)) (fun v76 _ => (ae .neq 3).f v73 (.int 3 0) (fun v78 => AV.ay v78 (fun v79 => when v79 (aH mem 3 x3 (AV.agg (aw [.int 4 0, .int 3 0, .int 3 0]) 3) v76 (fun v80 => .ret (.n x0 x1 (.x 8 .lf 0 0 0) x3 (.int 3 12) x5 x6 x7 (.n x8 v65 x10 .uu .uu .uu .uu .uu .e)) v80)) ((iR).run .lf (.n x0 x1 x2 x3 x4 x5 x6 x7 (.n x8 v65 x10 .uu .uu .uu .uu .uu .e)) v76)))))))))))) := by kernel_rfl
theorem fY (x0 x1 x2 x3 x4 x5 x6 x7 x8 x9 x10 : AV) (hp : Hp) : (lC).run .lf (.n x0 x1 x2 x3 x4 x5 x6 x7 (.n x8 x9 x10 .uu .uu .uu .uu .uu .e)) hp = eY 5 hp (fun v81 => aq mem true 3 x10 v81 (fun v82 => cO mem .nil .nil v81 (fun h83 => aH mem 3 x3 v82 h83 (fun v84 => .val (.bB .lf 0) v84)) (fun v85 _ => .ret (.n x0 x1 x8 x3 (.int 3 0) x5 x6 x7 (.n x8 x9 x10 .uu .uu .uu .uu .uu .e)) v85))) := by kernel_rfl
theorem eC (x0 x1 x2 x3 x4 x5 x6 x7 x8 x9 x10 : AV) (hp : Hp) : (iR).run .lf (.n x0 x1 x2 x3 x4 x5 x6 x7 (.n x8 x9 x10 .uu .uu .uu .uu .uu .e)) hp = aq mem true 7 x9 hp (fun v87 => lL mem (aY mem) 7 (Tr.full (AV.agg (aw [.int 3 0, .int 3 0, .int 3 0, .int 3 0, .int 4 0, .int 3 0, .int 4 0]) 7) 2) 7 1 (.cons (.mk 0 (fun v88 => v88 v87)) .nil) hp (fun v89 v90 => cR mem (aY mem) 7 x8 v89 v90 (fun v91 v92 => (lA).run .lf (.n x0 x1 x2 x3 x4 x5 x6 x7 (.n v91 x9 x10 .uu .uu .uu .uu .uu .e)) v92))) := by kernel_rfl
theorem fN (x0 x1 x2 x3 x4 x5 x6 x7 x8 x9 x10 : AV) (hp : Hp) : (lA).run .lf (.n x0 x1 x2 x3 x4 x5 x6 x7 (.n x8 x9 x10 .uu .uu .uu .uu .uu .e)) hp = (ae .add 3).f x6 (.int 3 1) (fun v93 => .ok (.n x0 x1 x2 x3 x4 x5 v93 x7 (.n x8 x9 x10 .uu .uu .uu .uu .uu .e)) hp) := by kernel_rfl
end
end Go.Proofs.YtbamejikafhenaaDoor.Tz
namespace Go.Proofs.YtbamejikafhenaaDoor.Tz
attribute [local irreducible] mem
set_option linter.unusedSimpArgs false
attribute [local congr] di aJ bM dh dm bj de cm aW cf cn c9 bh bK bH aX eJ cg cb cj bm bk aK aO eG bG cq bL bO bD bF ck c7 bl bJ dd bE bI bC cN fK
set_option maxHeartbeats 4000000
structure Rd (F : bN) (m : cD) (G : List UInt8 → Option Mk) : Prop where
  yes : ∀ {s x}, s.length ≤ 100000 → G s = some x → x.Ok ∧ db (F.f (.nd m.av .lf (.nd (S s) .lf .lf)) .empty) = some (a71 x)
  no : ∀ {s}, s.length ≤ 100000 → G s = none → ∃ e : Int, 1 ≤ e ∧ e ≤ 12 ∧ db (F.f (.nd m.av .lf (.nd (S s) .lf .lf)) .empty) = some (acw e)
theorem Rd.a3w {F : bN} {m : cD} {G : List UInt8 → Option Mk} (hG : Rd F m G) (hm : bz m) {s : List UInt8} {x : Mk} (hs : s.length ≤ 100000) (hx : G s = some x) (hp : Hp) (k : AV → Hp → aa) : au mem false F (.nd (.agg (aw [m.ty, m.tx, m.fs]) 3) .lf (.nd (S s) .lf .lf)) hp k = k (.bB (.nd (.agg (aw [I x.step, I x.g, I x.f, I x.at', B8 x.op, I x.fr, B8 x.out]) 7) .lf (.nd (I 0) .lf .lf)) 2) hp :=
  j6 (cD.iS hm (dA (.nd (aV _) .lf))) (gB (nu (by rfl)) (gG _)) (hG.yes hs hx).2 hp k
theorem Rd.a3j {F : bN} {m : cD} {G : List UInt8 → Option Mk} (hG : Rd F m G) (hm : bz m) {s : List UInt8} (hs : s.length ≤ 100000) (hx : G s = none) : ∃ e : Int, (1 ≤ e ∧ e ≤ 12) ∧ ∀ (hp : Hp) (k : AV → Hp → aa), au mem false F (.nd (.agg (aw [m.ty, m.tx, m.fs]) 3) .lf (.nd (S s) .lf .lf)) hp k = k (.bB (.nd (.agg (aw [I 0, I 0, I 0, I 0, B8 0, I 0, B8 0]) 7) .lf (.nd (I e) .lf .lf)) 2) hp := by
  obtain ⟨e, h1, h2, h3⟩ := hG.no hs hx
  exact ⟨e, ⟨h1, h2⟩, fun hp k => j6 (cD.iS hm (dA (.nd (aV _) .lf))) (gB (nu (by rfl)) (gG _)) h3 hp k⟩
theorem ahO {m : cD} {G : List UInt8 → Option Mk} (hG : Rd r8 m G) (hm : bz m) {x1 x4 x9 a : AV} {c5 n5 s5 ce : Nat} {w5 q q1 : Bool} {t5 : Row} {ln : List UInt8} {i : Nat} {d : List Mk} {hp : Hp}
    (hl : ln.length ≤ 100000) (h5 : hp.at c5 = .row w5 true 1 s5 t5) (h5l : i + 1 < n5 ∧ n5 ≤ s5 ∧ n5 ≤ 5000) (h5t : t5.at i = S ln) (h0 : hp.at 0 = Bx q [m.ty, m.tx, m.fs]) (h1 : hp.at 1 = Bx q1 [B8 0, I 0, I 0]) (hc : 2 ≤ c5 ∧ c5 < hp.nx) (hpr : hp.pr = []) (hnx : hp.nx ≤ 100 + 20 * i)
    (ha : kj 7 hp a (d.map Mk.av)) (hac : ∀ c n, a = .ms c 0 n 7 → c ≠ c5 ∧ 2 ≤ c) (hd : d.length ≤ i) :
    (∀ x, G ln = some x → ∃ x9' a' hp', (kj 7 hp' a' ((d ++ [x]).map Mk.av) ∧ (∀ c n, a' = .ms c 0 n 7 → hp.nx ≤ c) ∧ hp'.nx = hp.nx + 14 ∧ hp'.pr = [] ∧ ∀ c, c < hp.nx → (∀ n, a ≠ .ms c 0 n 7) → hp'.at c = hp.at c) ∧ (cP).run .lf (.n m.av x1 (.x 8 .lf 0 0 0) (.ptr 1 0) x4 (.ms c5 0 n5 1) (I i) (.ptr 0 0) (.n a x9 (.ptr ce 0) .uu .uu .uu .uu .uu .e)) hp = .ok (.n m.av x1 (.x 8 .lf 0 0 0) (.ptr 1 0) x4 (.ms c5 0 n5 1) (I ((i : Int) + 1)) (.ptr 0 0) (.n a' x9' (.ptr ce 0) .uu .uu .uu .uu .uu .e)) hp') ∧
    (G ln = none → ∃ x9' hp' q1', (hp'.at 1 = Bx q1' [B8 0, I 0, I 0] ∧ hp'.nx ≤ 1000000) ∧ (cP).run .lf (.n m.av x1 (.x 8 .lf 0 0 0) (.ptr 1 0) x4 (.ms c5 0 n5 1) (I i) (.ptr 0 0) (.n a x9 (.ptr ce 0) .uu .uu .uu .uu .uu .e)) hp = .ret (.n m.av x1 (.x 8 .lf 0 0 0) (.ptr 1 0) (I 12) (.ms c5 0 n5 1) (I i) (.ptr 0 0) (.n a x9' (.ptr ce 0) .uu .uu .uu .uu .uu .e)) hp') := by
  have hlt : (i : Int) < (n5 : Int) - 1 := by omega
  refine ⟨fun x hx => ?_, fun hno => ?_⟩
  · have e8 := hG.a3w hm hl hx
    generalize hr : (cP).run .lf (.n m.av x1 (.x 8 .lf 0 0 0) (.ptr 1 0) x4 (.ms c5 0 n5 1) (I i) (.ptr 0 0) (.n a x9 (.ptr ce 0) .uu .uu .uu .uu .uu .e)) hp = r
    simp only [cD.av] at hr
    simp +contextual (maxSteps := 2000000) (disch := (first | omega | (simp only [Y2, List.length_drop, List.length_take] <;> omega) | ((repeat' (first | exact ai | apply ab | apply aj | refine ah (by omega) ?_ ?_)) <;> (simp (disch := (first | omega | (simp only [Y5] <;> omega))) only [Y4, Nat.reduceAdd, Nat.reduceEqDiff, reduceIte, *])) | (simp (disch := omega) only [Y4, Nat.reduceAdd, Nat.reduceEqDiff, reduceIte]; done) | assumption | exact aN _ | exact aU _ | exact aT _ | exact aS _ | exact True.intro | rfl)) only [Y1, Y3, Y7, ij, ny, iI, ig, fM, fY, eC, fN, Int.reduceLT, Int.reduceLE, Int.reduceEq, Int.reduceNeg, Int.reduceToNat, Nat.reduceAdd, Nat.reduceEqDiff, reduceIte, Nat.reduceLeDiff, a1l, Nat.reduceSub, h0, h1, h5, mL, kb, Nat.mul_one, h5t, e8] at hr
    rw [if_pos hlt] at hr
    generalize hH : Hp.mk ((hp.u5 12).dS (hp.nx + 9) (Bx true [I x.step, I x.g, I x.f, I x.at', B8 x.op, I x.fr, B8 x.out])).t (hp.nx + 12) hp.pr hp.nx = H at hr
    have hHa : ∀ c, c < hp.nx → H.at c = hp.at c := fun c hc => by
      subst hH
      show ((hp.u5 12).dS (hp.nx + 9) _).at c = _
      rw [cL (by omega) (by omega)]; rfl
    have hHn : H.nx = hp.nx + 12 := by subst hH; rfl
    have hHp : H.pr = [] := by subst hH; exact hpr
    obtain ⟨a', hp', g1, g2, g3, g4, g5, g6⟩ := a6C (Tr.full (AV.agg (aw [I 0, I 0, I 0, I 0, B8 0, I 0, B8 0]) 7) 2) (z := 7) (v := x.av) (by decide) (.inr ⟨by decide, x.l, rfl, rfl, rfl⟩) (ha.mono hHa (by omega)) (by omega) hHp (by rw [List.length_map]; omega)
    simp only [Mk.av, Mk.l] at g6
    rw [g6] at hr
    simp +contextual (maxSteps := 2000000) (disch := (first | omega | (simp only [Y2, List.length_drop, List.length_take] <;> omega) | ((repeat' (first | exact ai | apply ab | apply aj | refine ah (by omega) ?_ ?_)) <;> (simp (disch := (first | omega | (simp only [Y5] <;> omega))) only [Y4, Nat.reduceAdd, Nat.reduceEqDiff, reduceIte, *])) | (simp (disch := omega) only [Y4, Nat.reduceAdd, Nat.reduceEqDiff, reduceIte]; done) | assumption | exact aN _ | exact aU _ | exact aT _ | exact aS _ | exact True.intro | rfl)) only [Y1, Y3, Y7, ny, iI, ig, fM, fY, eC, fN, Int.reduceLT, Int.reduceLE, Int.reduceEq, Int.reduceNeg, Int.reduceToNat, Nat.reduceAdd, Nat.reduceEqDiff, reduceIte, Nat.reduceLeDiff, Nat.reduceSub] at hr
    refine ⟨_, a', hp', ⟨?_, ?_, by omega, g3, fun c hc hca => by rw [g4 c (by omega) hca, hHa c hc]⟩, hr.symm⟩
    · rw [List.map_append]; exact g1
    · intro c n e
      rw [g5] at e; injection e; omega
  · obtain ⟨e, he, e8⟩ := hG.a3j hm hl hno
    generalize hr : (cP).run .lf (.n m.av x1 (.x 8 .lf 0 0 0) (.ptr 1 0) x4 (.ms c5 0 n5 1) (I i) (.ptr 0 0) (.n a x9 (.ptr ce 0) .uu .uu .uu .uu .uu .e)) hp = r
    simp only [cD.av] at hr
    simp +contextual (maxSteps := 2000000) (disch := (first | omega | (simp only [Y2, List.length_drop, List.length_take] <;> omega) | ((repeat' (first | exact ai | apply ab | apply aj | refine ah (by omega) ?_ ?_)) <;> (simp (disch := (first | omega | (simp only [Y5] <;> omega))) only [Y4, Nat.reduceAdd, Nat.reduceEqDiff, reduceIte, *])) | (simp (disch := omega) only [Y4, Nat.reduceAdd, Nat.reduceEqDiff, reduceIte]; done) | assumption | exact aN _ | exact aU _ | exact aT _ | exact aS _ | exact True.intro | rfl)) only [Y1, Y3, Y7, ij, ny, iI, ig, fM, fY, eC, fN, Int.reduceLT, Int.reduceLE, Int.reduceEq, Int.reduceNeg, Int.reduceToNat, Nat.reduceAdd, Nat.reduceEqDiff, reduceIte, Nat.reduceLeDiff, a1l, Nat.reduceSub, h0, h1, h5, mL, kb, Nat.mul_one, h5t, e8] at hr
    rw [if_pos hlt, if_neg (by omega)] at hr
    exact ⟨_, _, bp q1 true, ⟨cB (by decide), show hp.nx + 12 ≤ _ by omega⟩, hr.symm⟩
def kh (G : List UInt8 → Option Mk) : List (List UInt8) → Option (List Mk)
  | [] => some []
  | s :: r => match G s with
    | none => none
    | some x => (match kh G r with
      | none => none
      | some l => some (x :: l))
theorem kj.len1 {h : Hp} {a : AV} {l : List AV} {z : Nat} (ha : kj z h a l) (hl : l ≠ []) : ∃ c t, a = .ms c 0 l.length z ∧ c < h.nx ∧ h.at c = .row true true z (l.length * z) t ∧ ∀ j, j < l.length → t.at j = l.getD j .uu := by
  rcases ha with ⟨_, h2⟩ | h
  · exact absurd h2 hl
  · exact h
theorem aax {m : cD} {G : List UInt8 → Option Mk} (hG : Rd r8 m G) (hm : bz m) {x1 x4 : AV} {c5 ce c0 : Nat} {q q1 : Bool} {t5 : Row} {L : List (List UInt8)} (hL : ∀ l ∈ L, l.length ≤ 100000) (hLn : 1 ≤ L.length ∧ L.length ≤ 5000) (h5t : ∀ j, j < L.length → t5.at j = S (L.getD j [])) (hc : 2 ≤ c5 ∧ c5 < c0 ∧ ce < c0) {BE : bX} : ∀ (k i fuel : Nat) (x9 a : AV) (d : List Mk) (hp : Hp), L.length - 1 - i = k → i ≤ L.length - 1 → k < fuel →
    hp.at c5 = .row true true 1 L.length t5 → hp.at 0 = Bx q [m.ty, m.tx, m.fs] → hp.at 1 = Bx q1 [B8 0, I 0, I 0] → hp.at ce = BE → c0 ≤ hp.nx → hp.pr = [] → hp.nx ≤ 100 + 20 * i → kj 7 hp a (d.map Mk.av) → (∀ c n, a = .ms c 0 n 7 → c0 ≤ c) → d.length ≤ i →
    (∀ r, kh G (L.dropLast.drop i) = some r → ∃ a' hp' z x9', kj 7 hp' a' ((d ++ r).map Mk.av) ∧ hp'.nx ≤ 100 + 20 * L.length ∧ (∀ c n, a' = .ms c 0 n 7 → c0 ≤ c) ∧ hp'.pr = [] ∧ c0 ≤ hp'.nx ∧ hp'.at 1 = Bx q1 [B8 0, I 0, I 0] ∧ hp'.at ce = BE ∧
      dW (aD cP fuel (.n m.av x1 (.x 8 .lf 0 0 0) (.ptr 1 0) x4 (.ms c5 0 L.length 1) (I i) (.ptr 0 0) (.n a x9 (.ptr ce 0) .uu .uu .uu .uu .uu .e)) hp) = (lC).run .lf (.n m.av x1 (.x 8 .lf 0 0 0) (.ptr 1 0) x4 (.ms c5 0 L.length 1) z (.ptr 0 0) (.n a' x9' (.ptr ce 0) .uu .uu .uu .uu .uu .e)) hp') ∧
    (kh G (L.dropLast.drop i) = none → ∃ a' x9' z hp' q1', (hp'.at 1 = Bx q1' [B8 0, I 0, I 0] ∧ hp'.nx ≤ 1000000) ∧ dW (aD cP fuel (.n m.av x1 (.x 8 .lf 0 0 0) (.ptr 1 0) x4 (.ms c5 0 L.length 1) (I i) (.ptr 0 0) (.n a x9 (.ptr ce 0) .uu .uu .uu .uu .uu .e)) hp) = .ret (.n m.av x1 (.x 8 .lf 0 0 0) (.ptr 1 0) (I 12) (.ms c5 0 L.length 1) z (.ptr 0 0) (.n a' x9' (.ptr ce 0) .uu .uu .uu .uu .uu .e)) hp')
  | k, i, 0, _, _, _, _, _, _, hfu, _, _, _, _, _, _, _, _, _, _ => absurd hfu (Nat.not_lt_zero _)
  | k, i, fuel + 1, x9, a, d, hp, hk, hi, hfu, h5, h0, h1, he, hc0, hpr, hnx, ha, hac, hd => by
    by_cases hlt : i < L.length - 1
    · have hlen : i < L.dropLast.length := by rw [List.length_dropLast]; exact hlt
      have hcons : L.dropLast.drop i = L.getD i [] :: L.dropLast.drop (i + 1) := by
        rw [List.drop_eq_getElem_cons hlen]
        congr 1
        rw [List.getElem_dropLast]
        simp [List.getD, show i < L.length by omega]
      have hmem : L.getD i [] ∈ L := by
        simp only [List.getD, List.getElem?_eq_getElem (show i < L.length by omega), Option.getD_some]
        exact List.getElem_mem _
      have hb := ahO hG hm (x1 := x1) (x4 := x4) (x9 := x9) (ce := ce) (n5 := L.length) (hL _ hmem) h5 ⟨by omega, Nat.le_refl _, hLn.2⟩ (h5t i (by omega)) h0 h1 ⟨hc.1, by omega⟩ hpr hnx ha (fun c n e => by have := hac c n e; omega) hd
      rw [hcons]
      cases hg : G (L.getD i []) with
      | none =>
        obtain ⟨x9', hp', q1', e1, e2⟩ := hb.2 hg
        refine ⟨fun r hr => ?_, fun _ => ⟨a, x9', _, hp', q1', e1, (congrArg dW (eQ e2)).trans (qz _ _)⟩⟩
        simp only [kh, hg] at hr
        cases hr
      | some x =>
        obtain ⟨x9', a', hp', ⟨e1, e2, e3, e4, e5⟩, e6⟩ := hb.1 x hg
        have hkeep : ∀ c, c < c0 → hp'.at c = hp.at c := fun c h => e5 c (by omega) fun n e => by have := hac c n e; omega
        have hrec := aax hG hm (x1 := x1) (x4 := x4) hL hLn h5t hc (q := q) (q1 := q1) (BE := BE) (k - 1) (i + 1) fuel x9' a' (d ++ [x]) hp' (by omega) (by omega) (by omega) (by rw [hkeep c5 hc.2.1]; exact h5) (by rw [hkeep 0 (by omega)]; exact h0) (by rw [hkeep 1 (by omega)]; exact h1) (by rw [hkeep ce hc.2.2]; exact he) (by omega) e4 (by omega) e1 (fun c n e => by have := e2 c n e; omega) (by rw [List.length_append]; simp only [List.length_cons, List.length_nil]; omega)
        rw [cY e6]
        refine ⟨fun r hr => ?_, fun hr => ?_⟩
        · simp only [kh, hg] at hr
          cases hq : kh G (L.dropLast.drop (i + 1)) with
          | none => rw [hq] at hr; cases hr
          | some r2 =>
            rw [hq] at hr
            injection hr with hr
            subst hr
            obtain ⟨a2, hp2, z, x92, k1, k2⟩ := hrec.1 r2 hq
            refine ⟨a2, hp2, z, x92, ?_, k2⟩
            rw [List.append_assoc] at k1; exact k1
        · simp only [kh, hg] at hr
          cases hq : kh G (L.dropLast.drop (i + 1)) with
          | none => exact hrec.2 hq
          | some r2 => rw [hq] at hr; cases hr
    · have hie : L.dropLast.drop i = [] := List.drop_eq_nil_of_le (by rw [List.length_dropLast]; omega)
      have hb : (cP).run .lf (.n m.av x1 (.x 8 .lf 0 0 0) (.ptr 1 0) x4 (.ms c5 0 L.length 1) (I i) (.ptr 0 0) (.n a x9 (.ptr ce 0) .uu .uu .uu .uu .uu .e)) hp = .exit 0 (.n m.av x1 (.x 8 .lf 0 0 0) (.ptr 1 0) x4 (.ms c5 0 L.length 1) (I i) (.ptr 0 0) (.n a x9 (.ptr ce 0) .uu .uu .uu .uu .uu .e)) hp := by
        generalize hr : (cP).run .lf (.n m.av x1 (.x 8 .lf 0 0 0) (.ptr 1 0) x4 (.ms c5 0 L.length 1) (I i) (.ptr 0 0) (.n a x9 (.ptr ce 0) .uu .uu .uu .uu .uu .e)) hp = r
        simp +contextual (maxSteps := 2000000) (disch := (first | omega | (simp only [Y2, List.length_drop, List.length_take] <;> omega) | ((repeat' (first | exact ai | apply ab | apply aj | refine ah (by omega) ?_ ?_)) <;> (simp (disch := (first | omega | (simp only [Y5] <;> omega))) only [Y4, Nat.reduceAdd, Nat.reduceEqDiff, reduceIte, *])) | (simp (disch := omega) only [Y4, Nat.reduceAdd, Nat.reduceEqDiff, reduceIte]; done) | assumption | exact aN _ | exact aU _ | exact aT _ | exact aS _ | exact True.intro | rfl)) only [Y1, Y3, Y7, ij, Int.reduceLT, Int.reduceLE, Int.reduceEq, Int.reduceNeg, Int.reduceToNat, Nat.reduceAdd, Nat.reduceEqDiff, reduceIte, Nat.reduceLeDiff, Nat.reduceSub] at hr
        rw [← hr, if_neg (by omega)]
      rw [hie]
      refine ⟨fun r hr => ?_, fun hr => (by cases hr)⟩
      injection hr with hr
      subst hr
      refine ⟨a, hp, _, x9, by rw [List.append_nil]; exact ha, by omega, hac, hpr, hc0, h1, he, (congrArg dW (cE hb)).trans (th _ _)⟩
end Go.Proofs.YtbamejikafhenaaDoor.Tz
namespace Go.Proofs.YtbamejikafhenaaDoor.Tz
attribute [local irreducible] mem
set_option linter.unusedSimpArgs false
attribute [local congr] di aJ bM dh dm bj de cm aW cf cn c9 bh bK bH aX eJ cg cb cj bm bk aK aO eG bG cq bL bO bD bF ck c7 bl bJ dd bE bI bC cN fK
set_option maxHeartbeats 4000000
structure Ed (F : bN) (E : List UInt8 → Option En) : Prop where
  yes : ∀ {s x}, s.length ≤ 50000 → E s = some x → x.Ok ∧ db (F.f (.nd (S s) .lf .lf) .empty) = some (.bB (.nd x.av .lf (.nd (.bool true) .lf .lf)) 2)
  no : ∀ {s}, s.length ≤ 50000 → E s = none → ∃ x : En, db (F.f (.nd (S s) .lf .lf) .empty) = some (.bB (.nd x.av .lf (.nd (.bool false) .lf .lf)) 2)
theorem Ed.a3w {F : bN} {E : List UInt8 → Option En} (hE : Ed F E) {s : List UInt8} {x : En} (hs : s.length ≤ 50000) (hx : E s = some x) (hp : Hp) (k : AV → Hp → aa) : au mem false F (.nd (S s) .lf .lf) hp k = k (.bB (.nd (.agg (aw [B8 x.out, I x.fl, I x.us]) 3) .lf (.nd (.bool true) .lf .lf)) 2) hp :=
  eO (.nd (aV _) .lf) (gB (nu (by rfl)) (a2s _)) (hE.yes hs hx).2 hp k
theorem Ed.a3j {F : bN} {E : List UInt8 → Option En} (hE : Ed F E) {s : List UInt8} (hs : s.length ≤ 50000) (hx : E s = none) : ∃ x : En, ∀ (hp : Hp) (k : AV → Hp → aa), au mem false F (.nd (S s) .lf .lf) hp k = k (.bB (.nd (.agg (aw [B8 x.out, I x.fl, I x.us]) 3) .lf (.nd (.bool false) .lf .lf)) 2) hp := by
  obtain ⟨x, h⟩ := hE.no hs hx
  exact ⟨x, fun hp k => eO (.nd (aV _) .lf) (gB (nu (by rfl)) (a2s _)) h hp k⟩
def rdL (G : List UInt8 → Option Mk) (E : List UInt8 → Option En) (ls : List (List UInt8)) (last : List UInt8) : Option (List Mk × En) :=
  if last = [] ∧ 1 ≤ ls.length ∧ ls.length ≤ 2001 then (match E (ls.getD (ls.length - 1) []) with
    | none => none
    | some x => (match kh G ls.dropLast with
      | none => none
      | some r => some (r, x)))
  else none
def a9T (o : Option (List Mk × En)) (r : aa) : Prop := ∃ a h, (match o with
  | some (l, x) => kj 7 h a (l.map Mk.av) ∧ r = .val (.bB (.nd a .lf (aw [x.av, I 0])) 3) h
  | none => kj 7 h a [] ∧ r = .val (.bB (.nd a .lf (aw [En.av ⟨0, 0, 0⟩, I 12])) 3) h) ∧ h.nx ≤ 1000000
theorem air {m : cD} {G : List UInt8 → Option Mk} {E : List UInt8 → Option En} (hG : Rd r8 m G) (hE : Ed r40 E) (hm : bz m) {s : List UInt8} (hs : s.length ≤ 4000) {ls : List (List UInt8)} {last : List UInt8} (hp : ls ++ [last] = aR 10 s) (hlen : ∀ l ∈ ls, l.length ≤ 4000) : a9T (rdL G E ls last) (r12.f (.nd m.av .lf (.nd (S s) .lf .lf)) .empty) := by
  obtain ⟨a9, hc, ls', last', k1, k2, k3, k4⟩ := aib (s := s) (by omega)
  have hll : ls' = ls ∧ last' = last := by
    have : ls' ++ [last'] = ls ++ [last] := by rw [k3, hp]
    have h1 := List.append_inj' this rfl
    exact ⟨h1.1, by injection h1.2⟩
  obtain ⟨rfl, rfl⟩ := hll
  have hsm : ls'.length ≤ 4001 := by
    have h1 := mB 10 s
    rw [← hp, List.length_append] at h1
    simp only [List.length_cons, List.length_nil] at h1
    omega
  generalize hr : r12.f (.nd m.av .lf (.nd (S s) .lf .lf)) .empty = r
  simp only [cD.av] at hr
  simp +contextual (maxSteps := 2000000) (disch := (first | omega | (simp only [Y2, List.length_drop, List.length_take] <;> omega) | ((repeat' (first | exact ai | apply ab | apply aj | refine ah (by omega) ?_ ?_)) <;> (simp (disch := (first | omega | (simp only [Y5] <;> omega))) only [Y4, Nat.reduceAdd, Nat.reduceEqDiff, reduceIte, *])) | (simp (disch := omega) only [Y4, Nat.reduceAdd, Nat.reduceEqDiff, reduceIte]; done) | assumption | exact aN _ | exact aU _ | exact aT _ | exact aS _ | exact True.intro | rfl)) only [Y1, Y3, Y7, t12, ny, Int.reduceLT, Int.reduceLE, Int.reduceEq, Int.reduceNeg, Int.reduceToNat, Nat.reduceAdd, Nat.reduceEqDiff, reduceIte, Nat.reduceLeDiff, Nat.reduceSub] at hr
  rw [if_neg (by omega)] at hr
  generalize (m.ty.pl && (m.tx.pl && (m.fs.pl && true))) = q at hr
  generalize hH : (Hp.empty.add (Bx q [m.ty, m.tx, m.fs])).add (Bx true [B8 0, I 0, I 0]) = H at hr
  have hn0 : (Hp.empty.add (Bx q [m.ty, m.tx, m.fs])).nx = 1 := rfl
  have hHn : H.nx = 2 := by subst hH; rfl
  have hHp : H.pr = [] := by subst hH; rfl
  have hH0 : H.at 0 = Bx q [m.ty, m.tx, m.fs] := by
    subst hH; rw [bZ (by rw [hn0]; decide) (by rw [hn0]; decide), cV (by show 0 < _; decide) rfl]
  have hH1 : H.at 1 = Bx true [B8 0, I 0, I 0] := by
    subst hH; exact cV (show 1 < 16777215 by decide) rfl
  obtain ⟨a', h', ⟨T1, T2, T3, T4, T5, T6⟩, e39⟩ := acZ (F := r39) (.nd (aV s) .lf) (fun v hv => by
    rw [List.mem_singleton.1 hv]; exact a2s _) k1 k2 k4 H (by omega)
  replace e39 : ∀ k, au mem false r39 (.nd (S s) .lf .lf) H k = k (.bB (.nd a' .lf (.nd (.bool (decide (last' = []))) .lf .lf)) 2) h' := e39
  have hl' : ∀ (h : Hp) (k : Nat → aa), cz mem 1 a' h k = k ls'.length := fun h k => by rw [aem T1, List.length_map]
  have h0 : h'.at 0 = Bx q [m.ty, m.tx, m.fs] := by rw [T5 0 (by omega)]; exact hH0
  have h1 : h'.at 1 = Bx true [B8 0, I 0, I 0] := by rw [T5 1 (by omega)]; exact hH1
  have hpr' : h'.pr = [] := by rw [T4]; exact hHp
  rw [e39] at hr
  simp +contextual (maxSteps := 2000000) (disch := (first | omega | (simp only [Y2, List.length_drop, List.length_take] <;> omega) | ((repeat' (first | exact ai | apply ab | apply aj | refine ah (by omega) ?_ ?_)) <;> (simp (disch := (first | omega | (simp only [Y5] <;> omega))) only [Y4, Nat.reduceAdd, Nat.reduceEqDiff, reduceIte, *])) | (simp (disch := omega) only [Y4, Nat.reduceAdd, Nat.reduceEqDiff, reduceIte]; done) | assumption | exact aN _ | exact aU _ | exact aT _ | exact aS _ | exact True.intro | rfl)) only [Y1, Y3, Y7, Int.reduceLT, Int.reduceLE, Int.reduceEq, Int.reduceNeg, Int.reduceToNat, Nat.reduceAdd, Nat.reduceEqDiff, reduceIte, Nat.reduceLeDiff, Nat.reduceSub, hl', h0, h1, apply_ite a7u, a2y] at hr
  unfold rdL
  have fail : ∀ {H2 : Hp}, H2.nx ≤ 1000000 → a9T none (.val (.bB (.nd (.x 8 .lf 0 0 0) .lf (.nd (.agg (aw [B8 0, I 0, I 0]) 3) .lf (.nd (I 12) .lf .lf))) 3) H2) := fun h2 => ⟨_, _, ⟨.inl ⟨rfl, rfl⟩, rfl⟩, h2⟩
  by_cases c1 : last' = []
  · rw [if_pos c1] at hr
    by_cases c2 : ls'.length = 0
    · rw [if_pos (by omega)] at hr
      rw [if_neg (by omega), ← hr]
      exact fail (show h'.nx ≤ _ by omega)
    rw [if_neg (by omega)] at hr
    by_cases c3 : 2001 < ls'.length
    · rw [if_pos (by omega)] at hr
      rw [if_neg (by omega), ← hr]
      exact fail (show h'.nx ≤ _ by omega)
    rw [if_neg (by omega)] at hr
    rw [if_pos ⟨c1, by omega, by omega⟩]
    obtain ⟨c5, t5, rfl, hc5, hat5, ht5⟩ := kj.len1 T1 (by intro e; have := congrArg List.length e; rw [List.length_map] at this; exact c2 this)
    have hc5' : c5 = 2 := (T6 _ _ rfl).trans hHn
    subst hc5'
    rw [List.length_map] at hr hat5 ht5
    have ht5' : ∀ j, j < ls'.length → t5.at j = S (ls'.getD j []) := fun j hj => by
      rw [ht5 j hj]; simp [List.getD, List.getElem?_map, hj]
    have hend : (ls'.getD (ls'.length - 1) []).length ≤ 50000 := by
      have := hlen (ls'.getD (ls'.length - 1) []) (by simp only [List.getD, List.getElem?_eq_getElem (show ls'.length - 1 < ls'.length by omega), Option.getD_some]; exact List.getElem_mem _)
      omega
    have hlast : t5.at (ls'.length - 1) = S (ls'.getD (ls'.length - 1) []) := ht5' _ (by omega)
    have hi : ((ls'.length : Int) - 1).toNat = ls'.length - 1 := by omega
    cases hEx : E (ls'.getD (ls'.length - 1) []) with
    | none =>
      obtain ⟨x, e40⟩ := hE.a3j hend hEx
      simp +contextual (maxSteps := 2000000) (disch := (first | omega | (simp only [Y2, List.length_drop, List.length_take] <;> omega) | ((repeat' (first | exact ai | apply ab | apply aj | refine ah (by omega) ?_ ?_)) <;> (simp (disch := (first | omega | (simp only [Y5] <;> omega))) only [Y4, Nat.reduceAdd, Nat.reduceEqDiff, reduceIte, *])) | (simp (disch := omega) only [Y4, Nat.reduceAdd, Nat.reduceEqDiff, reduceIte]; done) | assumption | exact aN _ | exact aU _ | exact aT _ | exact aS _ | exact True.intro | rfl)) only [Y1, Y3, Y7, iI, Int.reduceLT, Int.reduceLE, Int.reduceEq, Int.reduceNeg, Int.reduceToNat, Nat.reduceAdd, Nat.reduceEqDiff, reduceIte, Nat.reduceLeDiff, Nat.reduceSub, h0, h1, hat5, mL, kb, Nat.mul_one, hi, hlast, e40, a2y] at hr
      rw [← hr]
      exact fail (show h'.nx + 1 ≤ _ by omega)
    | some x =>
      have e40 := hE.a3w hend hEx
      simp +contextual (maxSteps := 2000000) (disch := (first | omega | (simp only [Y2, List.length_drop, List.length_take] <;> omega) | ((repeat' (first | exact ai | apply ab | apply aj | refine ah (by omega) ?_ ?_)) <;> (simp (disch := (first | omega | (simp only [Y5] <;> omega))) only [Y4, Nat.reduceAdd, Nat.reduceEqDiff, reduceIte, *])) | (simp (disch := omega) only [Y4, Nat.reduceAdd, Nat.reduceEqDiff, reduceIte]; done) | assumption | exact aN _ | exact aU _ | exact aT _ | exact aS _ | exact True.intro | rfl)) only [Y1, Y3, Y7, iI, ig, ry, Int.reduceLT, Int.reduceLE, Int.reduceEq, Int.reduceNeg, Int.reduceToNat, Nat.reduceAdd, Nat.reduceEqDiff, reduceIte, Nat.reduceLeDiff, Nat.reduceSub, h0, h1, hat5, mL, kb, Nat.mul_one, hi, hlast, e40] at hr
      generalize hI : (h'.add (Bx true [B8 0, I 0, I 0])).dS h'.nx (Bx true [B8 x.out, I x.fl, I x.us]) = J at hr
      have hN : h'.nx < 16777215 := by omega
      have hJn : J.nx = h'.nx + 1 := by subst hI; rfl
      have hJp : J.pr = [] := by subst hI; exact hpr'
      have hJe : J.at h'.nx = Bx true [B8 x.out, I x.fl, I x.us] := by subst hI; rw [cB hN]
      have hJk : ∀ c, c < h'.nx → J.at c = h'.at c := fun c hc => by subst hI; rw [cL hN (by omega), bZ hN (by omega)]
      have hloop := aax hG hm (x1 := S s) (x4 := I 0) (c5 := 2) (ce := h'.nx) (c0 := h'.nx + 1) (q := q) (q1 := true) (t5 := t5) (L := ls') (fun l hl => by have := hlen l hl; omega) ⟨by omega, by omega⟩ ht5' ⟨Nat.le_refl _, by omega, by omega⟩ (BE := Bx true [B8 x.out, I x.fl, I x.us]) (ls'.length - 1 - 0) 0 1000000 .uu (.x 8 .lf 0 0 0) [] J rfl (Nat.zero_le _) (by omega) (by rw [hJk 2 (by omega), hat5, Nat.mul_one]) (by rw [hJk 0 (by omega), h0]) (by rw [hJk 1 (by omega), h1]) hJe (by omega) hJp (by omega) (.inl ⟨rfl, rfl⟩) (fun c n e => (by cases e)) (Nat.le_refl _)
      rw [List.drop_zero] at hloop
      show a9T (match kh G ls'.dropLast with | none => none | some r => some (r, x)) r
      cases hq : kh G ls'.dropLast with
      | none =>
        obtain ⟨a2, x92, z, hp2, q1', ⟨g1, g3⟩, g2⟩ := hloop.2 hq
        simp only [cD.av] at g2
        rw [show (I ((0 : Nat) : Int)) = I 0 from rfl] at g2
        rw [g2, a2y] at hr
        simp +contextual (maxSteps := 2000000) (disch := (first | omega | (simp only [Y2, List.length_drop, List.length_take] <;> omega) | ((repeat' (first | exact ai | apply ab | apply aj | refine ah (by omega) ?_ ?_)) <;> (simp (disch := (first | omega | (simp only [Y5] <;> omega))) only [Y4, Nat.reduceAdd, Nat.reduceEqDiff, reduceIte, *])) | (simp (disch := omega) only [Y4, Nat.reduceAdd, Nat.reduceEqDiff, reduceIte]; done) | assumption | exact aN _ | exact aU _ | exact aT _ | exact aS _ | exact True.intro | rfl)) only [Y1, Y3, Y7, Int.reduceLT, Int.reduceLE, Int.reduceEq, Int.reduceNeg, Int.reduceToNat, Nat.reduceAdd, Nat.reduceEqDiff, reduceIte, Nat.reduceLeDiff, Nat.reduceSub, g1] at hr
        rw [← hr]
        exact fail g3
      | some l =>
        obtain ⟨a2, hp2, z, x92, g1, g2, g3, g4, g5, g6, g7, g8⟩ := hloop.1 l hq
        simp only [cD.av] at g8
        rw [show (I ((0 : Nat) : Int)) = I 0 from rfl] at g8
        rw [g8] at hr
        have hce : h'.nx < hp2.nx := by omega
        simp +contextual (maxSteps := 2000000) (disch := (first | omega | (simp only [Y2, List.length_drop, List.length_take] <;> omega) | ((repeat' (first | exact ai | apply ab | apply aj | refine ah (by omega) ?_ ?_)) <;> (simp (disch := (first | omega | (simp only [Y5] <;> omega))) only [Y4, Nat.reduceAdd, Nat.reduceEqDiff, reduceIte, *])) | (simp (disch := omega) only [Y4, Nat.reduceAdd, Nat.reduceEqDiff, reduceIte]; done) | assumption | exact aN _ | exact aU _ | exact aT _ | exact aS _ | exact True.intro | rfl)) only [Y1, Y3, Y7, fY, Int.reduceLT, Int.reduceLE, Int.reduceEq, Int.reduceNeg, Int.reduceToNat, Nat.reduceAdd, Nat.reduceEqDiff, reduceIte, Nat.reduceLeDiff, Nat.reduceSub, g6, g7, a2y] at hr
        refine ⟨a2, _, ⟨?_, hr.symm⟩, show hp2.nx + 5 ≤ _ by omega⟩
        refine kj.agi (h := hp2) g1 (fun c n e => ?_) (show hp2.nx ≤ hp2.nx + 5 by omega)
        have hc1 := g3 c n e
        show ((hp2.u5 5).dS 1 _).at c = _
        rw [cL (by decide) (by omega)]; rfl
  · rw [if_neg c1] at hr
    rw [if_neg fun h => c1 h.1, ← hr]
    exact fail (show h'.nx ≤ _ by omega)
theorem aaG {m : cD} {s : List UInt8} (hs : 300000 < s.length) (hs2 : s.length ≤ 1000000) : ∃ h, h.nx ≤ 1000000 ∧ r12.f (.nd m.av .lf (.nd (S s) .lf .lf)) .empty = .val (.bB (.nd (.x 8 .lf 0 0 0) .lf (aw [En.av ⟨0, 0, 0⟩, I 4])) 3) h := by
  generalize hr : r12.f (.nd m.av .lf (.nd (S s) .lf .lf)) .empty = r
  simp only [cD.av] at hr
  simp +contextual (maxSteps := 2000000) (disch := (first | omega | (simp only [Y2, List.length_drop, List.length_take] <;> omega) | ((repeat' (first | exact ai | apply ab | apply aj | refine ah (by omega) ?_ ?_)) <;> (simp (disch := (first | omega | (simp only [Y5] <;> omega))) only [Y4, Nat.reduceAdd, Nat.reduceEqDiff, reduceIte, *])) | (simp (disch := omega) only [Y4, Nat.reduceAdd, Nat.reduceEqDiff, reduceIte]; done) | assumption | exact aN _ | exact aU _ | exact aT _ | exact aS _ | exact True.intro | rfl)) only [Y1, Y3, Y7, t12, Int.reduceLT, Int.reduceLE, Int.reduceEq, Int.reduceNeg, Int.reduceToNat, Nat.reduceAdd, Nat.reduceEqDiff, reduceIte, Nat.reduceLeDiff, Nat.reduceSub, apply_ite a7u, a2y] at hr
  rw [if_pos (by omega)] at hr
  exact ⟨_, show 2 ≤ 1000000 by decide, hr.symm⟩
end Go.Proofs.YtbamejikafhenaaDoor.Tz
namespace Go.Proofs.YtbamejikafhenaaDoor.Tz
noncomputable section
def a7V : Sm := aC Go.Proofs.YtbamejikafhenaaDoor.Tz.rM [1, 0, 1]
def wN : Sm := aC Go.Proofs.YtbamejikafhenaaDoor.Tz.rM [1, 1, 1, 1, 0, 1]
def rU : Sm := aC Go.Proofs.YtbamejikafhenaaDoor.Tz.rM [1, 1, 1, 1, 1, 1, 0, 1]
def cC : Sm := gT Go.Proofs.YtbamejikafhenaaDoor.Tz.rM [1, 1, 1, 1, 1, 1, 1, 1, 0, 1, 0]
def nO : Fr → Hp → aa := iA Go.Proofs.YtbamejikafhenaaDoor.Tz.rM [1, 1, 1, 1, 1, 1, 1, 1, 0, 1, 0]
def dE : aa → aa := gX Go.Proofs.YtbamejikafhenaaDoor.Tz.rM [1, 1, 1, 1, 1, 1, 1, 1, 0, 1, 0]
def kY : Sm := aC Go.Proofs.YtbamejikafhenaaDoor.Tz.rM [1, 1, 1, 1, 1, 1, 1, 1, 0, 1, 0, 0, 1, 0]
def kW : Sm := aC Go.Proofs.YtbamejikafhenaaDoor.Tz.rM [1, 1, 1, 1, 1, 1, 1, 1, 0, 1]
def gA : Sm := aC Go.Proofs.YtbamejikafhenaaDoor.Tz.rM [1, 1, 1, 1, 1, 1, 1, 1, 0, 1, 0, 0, 1, 1, 0, 0, 1, 1, 0, 1]
def jV : Sm := aC Go.Proofs.YtbamejikafhenaaDoor.Tz.rM [1, 1, 1, 1, 1, 1, 1, 1, 0, 1, 0, 0, 1, 1, 0]
def a7J : aa → aa := eN Go.Proofs.YtbamejikafhenaaDoor.Tz.rM
theorem t11 (x0 x1 : AV) (hp : Hp) : r11.f (.nd x0 .lf (.nd x1 .lf .lf)) hp = a7J (cF mem (aY mem) x0 3 3 hp (fun v0 v1 => cF mem (aY mem) (AV.agg (aw [.int 4 0, .int 3 0, .int 3 0]) 3) 3 3 v1 (fun v2 v3 => cz mem 0 x1 v3 (fun v4 => ar (Nat.ble v4 9223372036854775807) ((ae .gtr 3).f (.int 3 v4) (.int 3 300000) (fun v5 => AV.ay v5 (fun v6 => when v6 (aH mem 3 v2 (AV.agg (aw [.int 4 0, .int 3 0, .int 3 0]) 3) v3 (fun v7 => .ret (.n x0 x1 (.x 8 .lf 0 0 0) v2 (.int 3 4) .uu .uu .uu (.n .uu .uu v0 .uu .uu .uu .uu .uu .e)) v7)) ((a7V).run .lf (.n x0 x1 (.x 8 .lf 0 0 0) v2 (.int 3 0) .uu .uu .uu (.n .uu .uu v0 .uu .uu .uu .uu .uu .e)) v3)))))))) := (congrArg (fun F => bN.f F (.nd x0 .lf (.nd x1 .lf .lf)) hp) (ba Go.Proofs.YtbamejikafhenaaDoor.Tz.rM).symm).trans (by kernel_rfl)
theorem a34 (x0 x1 x2 x3 x4 x5 x6 x7 x8 x9 x10 x11 x12 x13 : AV) (hp : Hp) : a7J (.ret (.n x0 x1 x2 x3 x4 x5 x6 x7 (.n x8 x9 x10 x11 x12 x13 .uu .uu .e)) hp) = aq mem true 3 x3 hp (fun v8 => .val (.bB (.nd x2 .lf (.nd v8 .lf (.nd x4 .lf .lf))) 3) hp) := by kernel_rfl
theorem np (x0 x1 x2 x3 x4 x5 x6 x7 x8 x9 x10 x11 x12 x13 : AV) (hp : Hp) : (a7V).run .lf (.n x0 x1 x2 x3 x4 x5 x6 x7 (.n x8 x9 x10 x11 x12 x13 .uu .uu .e)) hp = au mem false r37 (.nd x1 .lf (.nd (S [10]) .lf .lf)) hp (fun v9 v10 => cz mem 1 v9 v10 (fun v11 => ar (Nat.ble v11 9223372036854775807) ((ae .sub 3).f (.int 3 v11) (.int 3 2) (fun v12 => (ae .lss 3).f v12 (.int 3 0) (fun v13 => gd v13 false v10 (fun k14 => k14 v12 v10) (fun v15 v16 => gd v13 false v16 (fun k17 => (ae .gtr 3).f v15 (.int 3 2000) (fun v18 => k17 v18 v16)) (fun v19 v20 => aI v13 (fun v21 => v21 (.bool true)) (fun v22 => v22 v19) (fun v23 => gd v23 false v20 (fun k24 => k24 v9 v20) (fun v25 v26 => gd v23 false v26 (fun k27 => k27 v12 v26) (fun v28 v29 => gd v23 false v29 (fun k30 => (ae .add 3).f v28 (.int 3 1) (fun v31 => k30 v31 v29)) (fun v32 v33 => gd v23 false v33 (fun k34 => indexAddr 1 v25 v32 (fun v35 => k34 v35 v33)) (fun v36 v37 => gd v23 false v37 (fun k38 => aq mem false 1 v36 v37 (fun v39 => k38 v39 v37)) (fun v40 v41 => gd v23 false v41 (fun k42 => (cx .neq).f v40 (S []) (fun v43 => k42 v43 v41)) (fun v44 v45 => aI v23 (fun v46 => v46 (.bool true)) (fun v47 => v47 v44) (fun v48 => AV.ay v48 (fun v49 => when v49 (aH mem 3 x3 (AV.agg (aw [.int 4 0, .int 3 0, .int 3 0]) 3) v45 (fun v50 => .ret (.n x0 x1 (.x 8 .lf 0 0 0) x3 (.int 3 12) v9 v12 x7 (.n x8 x9 x10 x11 x12 x13 .uu .uu .e)) v50)) ((wN).run .lf (.n x0 x1 x2 x3 x4 v9 v12 x7 (.n x8 x9 x10 x11 x12 x13 .uu .uu .e)) v45))))))))))))))))) := by kernel_rfl
theorem gI (x0 x1 x2 x3 x4 x5 x6 x7 x8 x9 x10 x11 x12 x13 : AV) (hp : Hp) : (wN).run .lf (.n x0 x1 x2 x3 x4 x5 x6 x7 (.n x8 x9 x10 x11 x12 x13 .uu .uu .e)) hp = indexAddr 1 x5 x6 (fun v51 => aq mem false 1 v51 hp (fun v52 => au mem false r38 (.nd v52 .lf .lf) hp (fun v53 v54 => bg 0 v53 (fun v55 => bg 1 v53 (fun v56 => cF mem (aY mem) (AV.agg (aw [.int 4 0, .int 3 0, .int 3 0]) 3) 3 3 v54 (fun v57 v58 => aH mem 3 v57 v55 v58 (fun v59 => AV.ay v56 (fun v60 => when (dv v60) (aH mem 3 x3 (AV.agg (aw [.int 4 0, .int 3 0, .int 3 0]) 3) v59 (fun v61 => .ret (.n x0 x1 (.x 8 .lf 0 0 0) x3 (.int 3 12) x5 x6 x7 (.n x8 x9 x10 x11 x12 v57 .uu .uu .e)) v61)) ((rU).run .lf (.n x0 x1 x2 x3 x4 x5 x6 x7 (.n x8 x9 x10 x11 x12 v57 .uu .uu .e)) v59))))))))) := by kernel_rfl
theorem gK (x0 x1 x2 x3 x4 x5 x6 x7 x8 x9 x10 x11 x12 x13 : AV) (hp : Hp) : (rU).run .lf (.n x0 x1 x2 x3 x4 x5 x6 x7 (.n x8 x9 x10 x11 x12 x13 .uu .uu .e)) hp = eS 1 x5 .none (.some x6) .none (fun v62 => cz mem 1 v62 hp (fun v63 => ar (Nat.ble v63 9223372036854775807) (nO (.n x0 x1 x2 x3 x4 x5 x6 (.int 3 0) (.n (.int 3 v63) v62 x10 (.x 8 .lf 0 0 0) x12 x13 .uu .uu .e)) hp))) := by kernel_rfl
theorem gQ (x0 x1 x2 x3 x4 x5 x6 x7 x8 x9 x10 x11 x12 x13 : AV) (hp : Hp) : (cC).run .lf (.n x0 x1 x2 x3 x4 x5 x6 x7 (.n x8 x9 x10 x11 x12 x13 .uu .uu .e)) hp = (ae .lss 3).f x7 x8 (fun v64 => AV.ay v64 (fun v65 => when v65 ((kY).run .lf (.n x0 x1 x2 x3 x4 x5 x6 x7 (.n x8 x9 x10 x11 x12 x13 .uu .uu .e)) hp) (.exit 0 (.n x0 x1 x2 x3 x4 x5 x6 x7 (.n x8 x9 x10 x11 x12 x13 .uu .uu .e)) hp))) := by kernel_rfl
theorem qe (fr : Fr) (hp : Hp) : nO fr hp = dE (aD cC 1000000 fr hp) := rfl
theorem s7 (fr : Fr) (hp : Hp) : dE (.exit 0 fr hp) = (kW).run .lf fr hp := by kernel_rfl
theorem pP (fr : Fr) (hp : Hp) : dE (.ret fr hp) = .ret fr hp := by kernel_rfl
theorem fy (x0 x1 x2 x3 x4 x5 x6 x7 x8 x9 x10 x11 x12 x13 : AV) (hp : Hp) : (kY).run .lf (.n x0 x1 x2 x3 x4 x5 x6 x7 (.n x8 x9 x10 x11 x12 x13 .uu .uu .e)) hp = indexAddr 1 x9 x7 (fun v66 => aq mem false 1 v66 hp (fun v67 => aq mem true 3 x10 hp (fun v68 => au mem false r7 (.nd v68 .lf (.nd v67 .lf .lf)) hp (fun v69 v70 => bg 0 v69 (fun v71 => bg 1 v69 (fun v72 => cF mem (aY mem) (AV.agg (aw [.int 3 0, .int 3 0, .int 3 0, .int 3 0, .int 4 0, .int 3 0, .int 4 0]) 7) 7 7 v70 (fun v73 v74 => aH mem 7 v73 v71 v74 (fun v75 => (ae .neq 3).f v72 (.int 3 0) (fun v76 => AV.ay v76 (fun v77 => when v77 (aH mem 3 x3 (AV.agg (aw [.int 4 0, .int 3 0, .int 3 0]) 3) v75 (fun v78 => .ret (.n x0 x1 (.x 8 .lf 0 0 0) x3 (.int 3 12) x5 x6 x7 (.n x8 x9 x10 x11 v73 x13 .uu .uu .e)) v78)) ((gA).run .lf (.n x0 x1 x2 x3 x4 x5 x6 x7 (.n x8 x9 x10 x11 v73 x13 .uu .uu .e)) v75))))))))))) := by kernel_rfl
theorem fC (x0 x1 x2 x3 x4 x5 x6 x7 x8 x9 x10 x11 x12 x13 : AV) (hp : Hp) : (kW).run .lf (.n x0 x1 x2 x3 x4 x5 x6 x7 (.n x8 x9 x10 x11 x12 x13 .uu .uu .e)) hp = eY 5 hp (fun v79 => aq mem true 3 x13 v79 (fun v80 => cO mem .nil .nil v79 (fun h81 => aH mem 3 x3 v80 h81 (fun v82 => .val (.bB .lf 0) v82)) (fun v83 _ => .ret (.n x0 x1 x11 x3 (.int 3 0) x5 x6 x7 (.n x8 x9 x10 x11 x12 x13 .uu .uu .e)) v83))) := by kernel_rfl
theorem dJ (x0 x1 x2 x3 x4 x5 x6 x7 x8 x9 x10 x11 x12 x13 : AV) (hp : Hp) : (gA).run .lf (.n x0 x1 x2 x3 x4 x5 x6 x7 (.n x8 x9 x10 x11 x12 x13 .uu .uu .e)) hp = aq mem true 7 x12 hp (fun v85 => lL mem (aY mem) 7 (Tr.full (AV.agg (aw [.int 3 0, .int 3 0, .int 3 0, .int 3 0, .int 4 0, .int 3 0, .int 4 0]) 7) 2) 7 1 (.cons (.mk 0 (fun v86 => v86 v85)) .nil) hp (fun v87 v88 => cR mem (aY mem) 7 x11 v87 v88 (fun v89 v90 => (jV).run .lf (.n x0 x1 x2 x3 x4 x5 x6 x7 (.n x8 x9 x10 v89 x12 x13 .uu .uu .e)) v90))) := by kernel_rfl
theorem fj (x0 x1 x2 x3 x4 x5 x6 x7 x8 x9 x10 x11 x12 x13 : AV) (hp : Hp) : (jV).run .lf (.n x0 x1 x2 x3 x4 x5 x6 x7 (.n x8 x9 x10 x11 x12 x13 .uu .uu .e)) hp = (ae .add 3).f x7 (.int 3 1) (fun v91 => .ok (.n x0 x1 x2 x3 x4 x5 x6 v91 (.n x8 x9 x10 x11 x12 x13 .uu .uu .e)) hp) := by kernel_rfl
end
attribute [local irreducible] mem
set_option linter.unusedSimpArgs false
attribute [local congr] di aJ bM dh dm bj de cm aW cf cn c9 bh bK bH aX eJ cg cb cj bm bk aK aO eG bG cq bL bO bD bF ck c7 bl bJ dd bE bI bC cN fK
set_option maxHeartbeats 4000000
theorem aho {m : cD} {G : List UInt8 → Option Mk} (hG : Rd r7 m G) (hm : bz m) {x1 x4 x5 x6 x9 a : AV} {c5 n5 s5 ce : Nat} {w5 q q1 : Bool} {t5 : Row} {ln : List UInt8} {i : Nat} {d : List Mk} {hp : Hp}
    (hl : ln.length ≤ 100000) (h5 : hp.at c5 = .row w5 true 1 s5 t5) (h5l : i < n5 ∧ n5 ≤ s5 ∧ n5 ≤ 5000) (h5t : t5.at i = S ln) (h0 : hp.at 0 = Bx q [m.ty, m.tx, m.fs]) (h1 : hp.at 1 = Bx q1 [B8 0, I 0, I 0]) (hc : 2 ≤ c5 ∧ c5 < hp.nx) (hpr : hp.pr = []) (hnx : hp.nx ≤ 100 + 20 * i)
    (ha : kj 7 hp a (d.map Mk.av)) (hac : ∀ c n, a = .ms c 0 n 7 → c ≠ c5 ∧ 2 ≤ c) (hd : d.length ≤ i) :
    (∀ x, G ln = some x → ∃ x9' a' hp', (kj 7 hp' a' ((d ++ [x]).map Mk.av) ∧ (∀ c n, a' = .ms c 0 n 7 → hp.nx ≤ c) ∧ hp'.nx = hp.nx + 3 ∧ hp'.pr = [] ∧ ∀ c, c < hp.nx → (∀ n, a ≠ .ms c 0 n 7) → hp'.at c = hp.at c) ∧ (cC).run .lf (.n m.av x1 (.x 8 .lf 0 0 0) (.ptr 1 0) x4 x5 x6 (I i) (.n (I n5) (.ms c5 0 n5 1) (.ptr 0 0) a x9 (.ptr ce 0) .uu .uu .e)) hp = .ok (.n m.av x1 (.x 8 .lf 0 0 0) (.ptr 1 0) x4 x5 x6 (I ((i : Int) + 1)) (.n (I n5) (.ms c5 0 n5 1) (.ptr 0 0) a' x9' (.ptr ce 0) .uu .uu .e)) hp') ∧
    (G ln = none → ∃ x9' hp' q1', (hp'.at 1 = Bx q1' [B8 0, I 0, I 0] ∧ hp'.nx ≤ 1000000) ∧ (cC).run .lf (.n m.av x1 (.x 8 .lf 0 0 0) (.ptr 1 0) x4 x5 x6 (I i) (.n (I n5) (.ms c5 0 n5 1) (.ptr 0 0) a x9 (.ptr ce 0) .uu .uu .e)) hp = .ret (.n m.av x1 (.x 8 .lf 0 0 0) (.ptr 1 0) (I 12) x5 x6 (I i) (.n (I n5) (.ms c5 0 n5 1) (.ptr 0 0) a x9' (.ptr ce 0) .uu .uu .e)) hp') := by
  have hlt : (i : Int) < n5 := by omega
  refine ⟨fun x hx => ?_, fun hno => ?_⟩
  · have e8 := hG.a3w hm hl hx
    generalize hr : (cC).run .lf (.n m.av x1 (.x 8 .lf 0 0 0) (.ptr 1 0) x4 x5 x6 (I i) (.n (I n5) (.ms c5 0 n5 1) (.ptr 0 0) a x9 (.ptr ce 0) .uu .uu .e)) hp = r
    simp only [cD.av] at hr
    simp +contextual (maxSteps := 2000000) (disch := (first | omega | (simp only [Y2, List.length_drop, List.length_take] <;> omega) | ((repeat' (first | exact ai | apply ab | apply aj | refine ah (by omega) ?_ ?_)) <;> (simp (disch := (first | omega | (simp only [Y5] <;> omega))) only [Y4, Nat.reduceAdd, Nat.reduceEqDiff, reduceIte, *])) | (simp (disch := omega) only [Y4, Nat.reduceAdd, Nat.reduceEqDiff, reduceIte]; done) | assumption | exact aN _ | exact aU _ | exact aT _ | exact aS _ | exact True.intro | rfl)) only [Y1, Y3, Y7, gQ, np, gI, gK, fy, fC, dJ, fj, Int.reduceLT, Int.reduceLE, Int.reduceEq, Int.reduceNeg, Int.reduceToNat, Nat.reduceAdd, Nat.reduceEqDiff, reduceIte, Nat.reduceLeDiff, a1l, Nat.reduceSub, h0, h1, h5, mL, kb, Nat.mul_one, h5t, e8] at hr
    rw [if_pos hlt] at hr
    generalize hH : (hp.add (Bx true [I 0, I 0, I 0, I 0, B8 0, I 0, B8 0])).dS hp.nx (Bx true [I x.step, I x.g, I x.f, I x.at', B8 x.op, I x.fr, B8 x.out]) = H at hr
    have hHa : ∀ c, c < hp.nx → H.at c = hp.at c := fun c hc => by
      subst hH
      rw [cL (by omega) (by omega), bZ (by omega) (by omega)]
    have hHn : H.nx = hp.nx + 1 := by subst hH; rfl
    have hHp : H.pr = [] := by subst hH; exact hpr
    obtain ⟨a', hp', g1, g2, g3, g4, g5, g6⟩ := a6C (Tr.full (AV.agg (aw [I 0, I 0, I 0, I 0, B8 0, I 0, B8 0]) 7) 2) (z := 7) (v := x.av) (by decide) (.inr ⟨by decide, x.l, rfl, rfl, rfl⟩) (ha.mono hHa (by omega)) (by omega) hHp (by rw [List.length_map]; omega)
    simp only [Mk.av, Mk.l] at g6
    rw [g6] at hr
    simp +contextual (maxSteps := 2000000) (disch := (first | omega | (simp only [Y2, List.length_drop, List.length_take] <;> omega) | ((repeat' (first | exact ai | apply ab | apply aj | refine ah (by omega) ?_ ?_)) <;> (simp (disch := (first | omega | (simp only [Y5] <;> omega))) only [Y4, Nat.reduceAdd, Nat.reduceEqDiff, reduceIte, *])) | (simp (disch := omega) only [Y4, Nat.reduceAdd, Nat.reduceEqDiff, reduceIte]; done) | assumption | exact aN _ | exact aU _ | exact aT _ | exact aS _ | exact True.intro | rfl)) only [Y1, Y3, Y7, np, gI, gK, fy, fC, dJ, fj, Int.reduceLT, Int.reduceLE, Int.reduceEq, Int.reduceNeg, Int.reduceToNat, Nat.reduceAdd, Nat.reduceEqDiff, reduceIte, Nat.reduceLeDiff, Nat.reduceSub] at hr
    refine ⟨_, a', hp', ⟨?_, ?_, by omega, g3, fun c hc hca => by rw [g4 c (by omega) hca, hHa c hc]⟩, hr.symm⟩
    · rw [List.map_append]; exact g1
    · intro c n e
      rw [g5] at e; injection e; omega
  · obtain ⟨e, he, e8⟩ := hG.a3j hm hl hno
    generalize hr : (cC).run .lf (.n m.av x1 (.x 8 .lf 0 0 0) (.ptr 1 0) x4 x5 x6 (I i) (.n (I n5) (.ms c5 0 n5 1) (.ptr 0 0) a x9 (.ptr ce 0) .uu .uu .e)) hp = r
    simp only [cD.av] at hr
    simp +contextual (maxSteps := 2000000) (disch := (first | omega | (simp only [Y2, List.length_drop, List.length_take] <;> omega) | ((repeat' (first | exact ai | apply ab | apply aj | refine ah (by omega) ?_ ?_)) <;> (simp (disch := (first | omega | (simp only [Y5] <;> omega))) only [Y4, Nat.reduceAdd, Nat.reduceEqDiff, reduceIte, *])) | (simp (disch := omega) only [Y4, Nat.reduceAdd, Nat.reduceEqDiff, reduceIte]; done) | assumption | exact aN _ | exact aU _ | exact aT _ | exact aS _ | exact True.intro | rfl)) only [Y1, Y3, Y7, gQ, np, gI, gK, fy, fC, dJ, fj, Int.reduceLT, Int.reduceLE, Int.reduceEq, Int.reduceNeg, Int.reduceToNat, Nat.reduceAdd, Nat.reduceEqDiff, reduceIte, Nat.reduceLeDiff, a1l, Nat.reduceSub, h0, h1, h5, mL, kb, Nat.mul_one, h5t, e8] at hr
    rw [if_pos hlt, if_neg (by omega)] at hr
    exact ⟨_, _, bp q1 true, ⟨cB (by decide), show hp.nx + 1 ≤ _ by omega⟩, hr.symm⟩
theorem ac7 {m : cD} {G : List UInt8 → Option Mk} (hG : Rd r7 m G) (hm : bz m) {x1 x4 x5 x6 : AV} {c5 ce c0 : Nat} {q q1 : Bool} {t5 : Row} {L : List (List UInt8)} (hL : ∀ l ∈ L, l.length ≤ 100000) {s5 : Nat} (hLn : L.length ≤ s5 ∧ L.length ≤ 5000) (h5t : ∀ j, j < L.length → t5.at j = S (L.getD j [])) (hc : 2 ≤ c5 ∧ c5 < c0 ∧ ce < c0) {BE : bX} : ∀ (k i fuel : Nat) (x9 a : AV) (d : List Mk) (hp : Hp), L.length - i = k → i ≤ L.length → k < fuel →
    hp.at c5 = .row true true 1 s5 t5 → hp.at 0 = Bx q [m.ty, m.tx, m.fs] → hp.at 1 = Bx q1 [B8 0, I 0, I 0] → hp.at ce = BE → c0 ≤ hp.nx → hp.pr = [] → hp.nx ≤ 100 + 20 * i → kj 7 hp a (d.map Mk.av) → (∀ c n, a = .ms c 0 n 7 → c0 ≤ c) → d.length ≤ i →
    (∀ r, kh G (L.drop i) = some r → ∃ a' hp' z x9', kj 7 hp' a' ((d ++ r).map Mk.av) ∧ hp'.nx ≤ 100 + 20 * L.length ∧ (∀ c n, a' = .ms c 0 n 7 → c0 ≤ c) ∧ hp'.pr = [] ∧ c0 ≤ hp'.nx ∧ hp'.at 1 = Bx q1 [B8 0, I 0, I 0] ∧ hp'.at ce = BE ∧
      dE (aD cC fuel (.n m.av x1 (.x 8 .lf 0 0 0) (.ptr 1 0) x4 x5 x6 (I i) (.n (I L.length) (.ms c5 0 L.length 1) (.ptr 0 0) a x9 (.ptr ce 0) .uu .uu .e)) hp) = (kW).run .lf (.n m.av x1 (.x 8 .lf 0 0 0) (.ptr 1 0) x4 x5 x6 z (.n (I L.length) (.ms c5 0 L.length 1) (.ptr 0 0) a' x9' (.ptr ce 0) .uu .uu .e)) hp') ∧
    (kh G (L.drop i) = none → ∃ a' x9' z hp' q1', (hp'.at 1 = Bx q1' [B8 0, I 0, I 0] ∧ hp'.nx ≤ 1000000) ∧ dE (aD cC fuel (.n m.av x1 (.x 8 .lf 0 0 0) (.ptr 1 0) x4 x5 x6 (I i) (.n (I L.length) (.ms c5 0 L.length 1) (.ptr 0 0) a x9 (.ptr ce 0) .uu .uu .e)) hp) = .ret (.n m.av x1 (.x 8 .lf 0 0 0) (.ptr 1 0) (I 12) x5 x6 z (.n (I L.length) (.ms c5 0 L.length 1) (.ptr 0 0) a' x9' (.ptr ce 0) .uu .uu .e)) hp')
  | k, i, 0, _, _, _, _, _, _, hfu, _, _, _, _, _, _, _, _, _, _ => absurd hfu (Nat.not_lt_zero _)
  | k, i, fuel + 1, x9, a, d, hp, hk, hi, hfu, h5, h0, h1, he, hc0, hpr, hnx, ha, hac, hd => by
    by_cases hlt : i < L.length
    · have hcons : L.drop i = L.getD i [] :: L.drop (i + 1) := by
        rw [List.drop_eq_getElem_cons hlt]
        congr 1
        simp [List.getD, hlt]
      have hmem : L.getD i [] ∈ L := by
        simp only [List.getD, List.getElem?_eq_getElem (show i < L.length by omega), Option.getD_some]
        exact List.getElem_mem _
      have hb := aho hG hm (x1 := x1) (x4 := x4) (x5 := x5) (x6 := x6) (x9 := x9) (ce := ce) (n5 := L.length) (hL _ hmem) h5 ⟨by omega, hLn.1, hLn.2⟩ (h5t i (by omega)) h0 h1 ⟨hc.1, by omega⟩ hpr hnx ha (fun c n e => by have := hac c n e; omega) hd
      rw [hcons]
      cases hg : G (L.getD i []) with
      | none =>
        obtain ⟨x9', hp', q1', e1, e2⟩ := hb.2 hg
        refine ⟨fun r hr => ?_, fun _ => ⟨a, x9', _, hp', q1', e1, (congrArg dE (eQ e2)).trans (pP _ _)⟩⟩
        simp only [kh, hg] at hr
        cases hr
      | some x =>
        obtain ⟨x9', a', hp', ⟨e1, e2, e3, e4, e5⟩, e6⟩ := hb.1 x hg
        have hkeep : ∀ c, c < c0 → hp'.at c = hp.at c := fun c h => e5 c (by omega) fun n e => by have := hac c n e; omega
        have hrec := ac7 hG hm (x1 := x1) (x4 := x4) (x5 := x5) (x6 := x6) hL hLn h5t hc (q := q) (q1 := q1) (BE := BE) (k - 1) (i + 1) fuel x9' a' (d ++ [x]) hp' (by omega) (by omega) (by omega) (by rw [hkeep c5 hc.2.1]; exact h5) (by rw [hkeep 0 (by omega)]; exact h0) (by rw [hkeep 1 (by omega)]; exact h1) (by rw [hkeep ce hc.2.2]; exact he) (by omega) e4 (by omega) e1 (fun c n e => by have := e2 c n e; omega) (by rw [List.length_append]; simp only [List.length_cons, List.length_nil]; omega)
        rw [cY e6]
        refine ⟨fun r hr => ?_, fun hr => ?_⟩
        · simp only [kh, hg] at hr
          cases hq : kh G (L.drop (i + 1)) with
          | none => rw [hq] at hr; cases hr
          | some r2 =>
            rw [hq] at hr
            injection hr with hr
            subst hr
            obtain ⟨a2, hp2, z, x92, k1, k2⟩ := hrec.1 r2 hq
            refine ⟨a2, hp2, z, x92, ?_, k2⟩
            rw [List.append_assoc] at k1; exact k1
        · simp only [kh, hg] at hr
          cases hq : kh G (L.drop (i + 1)) with
          | none => exact hrec.2 hq
          | some r2 => rw [hq] at hr; cases hr
    · have hie : L.drop i = [] := List.drop_eq_nil_of_le (by omega)
      have hb : (cC).run .lf (.n m.av x1 (.x 8 .lf 0 0 0) (.ptr 1 0) x4 x5 x6 (I i) (.n (I L.length) (.ms c5 0 L.length 1) (.ptr 0 0) a x9 (.ptr ce 0) .uu .uu .e)) hp = .exit 0 (.n m.av x1 (.x 8 .lf 0 0 0) (.ptr 1 0) x4 x5 x6 (I i) (.n (I L.length) (.ms c5 0 L.length 1) (.ptr 0 0) a x9 (.ptr ce 0) .uu .uu .e)) hp := by
        generalize hr : (cC).run .lf (.n m.av x1 (.x 8 .lf 0 0 0) (.ptr 1 0) x4 x5 x6 (I i) (.n (I L.length) (.ms c5 0 L.length 1) (.ptr 0 0) a x9 (.ptr ce 0) .uu .uu .e)) hp = r
        simp +contextual (maxSteps := 2000000) (disch := (first | omega | (simp only [Y2, List.length_drop, List.length_take] <;> omega) | ((repeat' (first | exact ai | apply ab | apply aj | refine ah (by omega) ?_ ?_)) <;> (simp (disch := (first | omega | (simp only [Y5] <;> omega))) only [Y4, Nat.reduceAdd, Nat.reduceEqDiff, reduceIte, *])) | (simp (disch := omega) only [Y4, Nat.reduceAdd, Nat.reduceEqDiff, reduceIte]; done) | assumption | exact aN _ | exact aU _ | exact aT _ | exact aS _ | exact True.intro | rfl)) only [Y1, Y3, Y7, gQ, Int.reduceLT, Int.reduceLE, Int.reduceEq, Int.reduceNeg, Int.reduceToNat, Nat.reduceAdd, Nat.reduceEqDiff, reduceIte, Nat.reduceLeDiff, Nat.reduceSub] at hr
        rw [← hr, if_neg (by omega)]
      rw [hie]
      refine ⟨fun r hr => ?_, fun hr => (by cases hr)⟩
      injection hr with hr
      subst hr
      refine ⟨a, hp, _, x9, by rw [List.append_nil]; exact ha, by omega, hac, hpr, hc0, h1, he, (congrArg dE (cE hb)).trans (s7 _ _)⟩
end Go.Proofs.YtbamejikafhenaaDoor.Tz
