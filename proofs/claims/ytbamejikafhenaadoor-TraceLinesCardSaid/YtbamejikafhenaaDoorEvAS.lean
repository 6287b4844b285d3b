import Derived.Test.YtbamejikafhenaaDoorEvAN
import Derived.Test.YtbamejikafhenaaDoorEvAO
import Derived.Test.YtbamejikafhenaaDoorEvAP
import Derived.Test.YtbamejikafhenaaDoorEvAR
open Go Go.Proofs.YtbamejikafhenaaDoor.Ev
namespace Go.Proofs.YtbamejikafhenaaDoor.Tz
noncomputable section
def jm : Sm := gT Go.Proofs.YtbamejikafhenaaDoor.Tz.nY [1, 0, 1, 0]
def a43 : Fr → Hp → aa := iA Go.Proofs.YtbamejikafhenaaDoor.Tz.nY [1, 0, 1, 0]
def mA : aa → aa := gX Go.Proofs.YtbamejikafhenaaDoor.Tz.nY [1, 0, 1, 0]
def u6 : Sm := aC Go.Proofs.YtbamejikafhenaaDoor.Tz.nY [1, 0, 1, 0, 0, 0, 1]
def a10 : Sm := aC Go.Proofs.YtbamejikafhenaaDoor.Tz.nY [1, 0, 1]
def nL : Sm := aC Go.Proofs.YtbamejikafhenaaDoor.Tz.nY [1, 0, 1, 0, 0, 1, 0, 0, 1, 0, 1]
def cU : Sm := gT Go.Proofs.YtbamejikafhenaaDoor.Tz.nY [1, 0, 1, 0, 0, 1, 0, 0, 1, 1, 1, 0]
def mf : Fr → Hp → aa := iA Go.Proofs.YtbamejikafhenaaDoor.Tz.nY [1, 0, 1, 0, 0, 1, 0, 0, 1, 1, 1, 0]
def du : aa → aa := gX Go.Proofs.YtbamejikafhenaaDoor.Tz.nY [1, 0, 1, 0, 0, 1, 0, 0, 1, 1, 1, 0]
def jT : Sm := aC Go.Proofs.YtbamejikafhenaaDoor.Tz.nY [1, 0, 1, 0, 0, 1, 0, 0, 1, 1, 1, 0, 0, 0, 1]
def jS : Sm := aC Go.Proofs.YtbamejikafhenaaDoor.Tz.nY [1, 0, 1, 0, 0, 1, 0, 0, 1, 1, 1]
def uC : Sm := aC Go.Proofs.YtbamejikafhenaaDoor.Tz.nY [1, 0, 1, 0, 0, 1, 0]
def iN : Sm := aC Go.Proofs.YtbamejikafhenaaDoor.Tz.nY [1, 0, 1, 0, 0, 1, 0, 0, 1, 1, 1, 0, 0, 1, 0, 0, 1]
def jU : Sm := aC Go.Proofs.YtbamejikafhenaaDoor.Tz.nY [1, 0, 1, 0, 0, 1, 0, 0, 1, 1, 1, 0, 0, 1, 0]
def a8o : aa → aa := eN Go.Proofs.YtbamejikafhenaaDoor.Tz.nY
theorem t16 (x0 : AV) (hp : Hp) : r16.f (.nd x0 .lf .lf) hp = a8o (cF mem (aY mem) x0 3 3 hp (fun v0 v1 => a43 (.n x0 (.bool false) (.int 3 0) v0 .uu .uu .uu .uu .e) v1)) := (congrArg (fun F => bN.f F (.nd x0 .lf .lf) hp) (ba Go.Proofs.YtbamejikafhenaaDoor.Tz.nY).symm).trans (by kernel_rfl)
theorem agP (x0 x1 x2 x3 x4 x5 : AV) (hp : Hp) : a8o (.ret (.n x0 x1 x2 x3 x4 x5 .uu .uu .e) hp) = .val x1 hp := by kernel_rfl
theorem u0 (x0 x1 x2 x3 x4 x5 : AV) (hp : Hp) : (jm).run .lf (.n x0 x1 x2 x3 x4 x5 .uu .uu .e) hp = fieldAddr 2 x3 (fun v2 => aq mem false 1 v2 hp (fun v3 => cz mem 1 v3 hp (fun v4 => ar (Nat.ble v4 9223372036854775807) ((ae .lss 3).f x2 (.int 3 v4) (fun v5 => gd v5 true hp (fun k6 => k6 x2 hp) (fun v7 v8 => gd v5 true v8 (fun k9 => (ae .leq 3).f v7 (.int 3 40) (fun v10 => k9 v10 v8)) (fun v11 v12 => aI v5 (fun v13 => v13 v11) (fun v14 => v14 (.bool false)) (fun v15 => AV.ay v15 (fun v16 => when v16 ((u6).run .lf (.n x0 x1 x2 x3 x4 x5 .uu .uu .e) v12) (.exit 0 (.n x0 x1 x2 x3 x4 x5 .uu .uu .e) v12)))))))))) := by kernel_rfl
theorem a2T (fr : Fr) (hp : Hp) : a43 fr hp = mA (aD jm 1000000 fr hp) := rfl
theorem a4Q (fr : Fr) (hp : Hp) : mA (.exit 0 fr hp) = (a10).run .lf fr hp := by kernel_rfl
theorem a1X (fr : Fr) (hp : Hp) : mA (.ret fr hp) = .ret fr hp := by kernel_rfl
theorem wB (x0 x1 x2 x3 x4 x5 : AV) (hp : Hp) : (u6).run .lf (.n x0 x1 x2 x3 x4 x5 .uu .uu .e) hp = fieldAddr 2 x3 (fun v17 => aq mem false 1 v17 hp (fun v18 => indexAddr 7 v18 x2 (fun v19 => aq mem true 7 v19 hp (fun v20 => cF mem (aY mem) (AV.agg (aw [S [], .int 3 0, .int 3 0, .x 8 .lf 0 0 0, .x 8 .lf 0 0 0, .x 8 .lf 0 0 0, .x 8 .lf 0 0 0]) 7) 7 7 hp (fun v21 v22 => aH mem 7 v21 v20 v22 (fun v23 => fieldAddr 0 v21 (fun v24 => aq mem false 1 v24 v23 (fun v25 => cz mem 0 v25 v23 (fun v26 => ar (Nat.ble v26 9223372036854775807) ((ae .gtr 3).f (.int 3 v26) (.int 3 40) (fun v27 => gd v27 false v23 (fun k28 => fieldAddr 3 v21 (fun v29 => k28 v29 v23)) (fun v30 v31 => gd v27 false v31 (fun k32 => aq mem false 1 v30 v31 (fun v33 => k32 v33 v31)) (fun v34 v35 => gd v27 false v35 (fun k36 => cz mem 1 v34 v35 (fun v37 => ar (Nat.ble v37 9223372036854775807) (k36 (.int 3 v37) v35))) (fun v38 v39 => gd v27 false v39 (fun k40 => (ae .gtr 3).f v38 (.int 3 30) (fun v41 => k40 v41 v39)) (fun v42 v43 => aI v27 (fun v44 => v44 (.bool true)) (fun v45 => v45 v42) (fun v46 => gd v46 false v43 (fun k47 => fieldAddr 4 v21 (fun v48 => k47 v48 v43)) (fun v49 v50 => gd v46 false v50 (fun k51 => aq mem false 1 v49 v50 (fun v52 => k51 v52 v50)) (fun v53 v54 => gd v46 false v54 (fun k55 => cz mem 1 v53 v54 (fun v56 => ar (Nat.ble v56 9223372036854775807) (k55 (.int 3 v56) v54))) (fun v57 v58 => gd v46 false v58 (fun k59 => (ae .gtr 3).f v57 (.int 3 300) (fun v60 => k59 v60 v58)) (fun v61 v62 => aI v46 (fun v63 => v63 (.bool true)) (fun v64 => v64 v61) (fun v65 => AV.ay v65 (fun v66 => when v66 (.ret (.n x0 (.bool true) x2 x3 x4 v21 .uu .uu .e) v62) ((nL).run .lf (.n x0 x1 x2 x3 x4 v21 .uu .uu .e) v62))))))))))))))))))))))) := by kernel_rfl
theorem a5e (x0 x1 x2 x3 x4 x5 : AV) (hp : Hp) : (a10).run .lf (.n x0 x1 x2 x3 x4 x5 .uu .uu .e) hp = fieldAddr 2 x3 (fun v67 => aq mem false 1 v67 hp (fun v68 => cz mem 1 v68 hp (fun v69 => ar (Nat.ble v69 9223372036854775807) ((ae .gtr 3).f (.int 3 v69) (.int 3 40) (fun v70 => .ret (.n x0 v70 x2 x3 x4 x5 .uu .uu .e) hp))))) := by kernel_rfl
theorem qQ (x0 x1 x2 x3 x4 x5 : AV) (hp : Hp) : (nL).run .lf (.n x0 x1 x2 x3 x4 x5 .uu .uu .e) hp = mf (.n x0 x1 x2 x3 (.int 3 0) x5 .uu .uu .e) hp := by kernel_rfl
theorem jW (x0 x1 x2 x3 x4 x5 : AV) (hp : Hp) : (cU).run .lf (.n x0 x1 x2 x3 x4 x5 .uu .uu .e) hp = fieldAddr 3 x5 (fun v71 => aq mem false 1 v71 hp (fun v72 => cz mem 1 v72 hp (fun v73 => ar (Nat.ble v73 9223372036854775807) ((ae .lss 3).f x4 (.int 3 v73) (fun v74 => AV.ay v74 (fun v75 => when v75 ((jT).run .lf (.n x0 x1 x2 x3 x4 x5 .uu .uu .e) hp) (.exit 4 (.n x0 x1 x2 x3 x4 x5 .uu .uu .e) hp))))))) := by kernel_rfl
theorem pM (fr : Fr) (hp : Hp) : mf fr hp = du (aD cU 1000000 fr hp) := rfl
theorem qo (fr : Fr) (hp : Hp) : du (.exit 4 fr hp) = (jS).run .lf fr hp := by kernel_rfl
theorem oH (fr : Fr) (hp : Hp) : du (.ret fr hp) = .ret fr hp := by kernel_rfl
theorem mW (x0 x1 x2 x3 x4 x5 : AV) (hp : Hp) : (jT).run .lf (.n x0 x1 x2 x3 x4 x5 .uu .uu .e) hp = fieldAddr 3 x5 (fun v76 => aq mem false 1 v76 hp (fun v77 => indexAddr 2 v77 x4 (fun v78 => fieldAddr 0 v78 (fun v79 => aq mem false 1 v79 hp (fun v80 => cz mem 0 v80 hp (fun v81 => ar (Nat.ble v81 9223372036854775807) ((ae .gtr 3).f (.int 3 v81) (.int 3 40) (fun v82 => AV.ay v82 (fun v83 => when v83 (.ret (.n x0 (.bool true) x2 x3 x4 x5 .uu .uu .e) hp) ((iN).run .lf (.n x0 x1 x2 x3 x4 x5 .uu .uu .e) hp)))))))))) := by kernel_rfl
theorem qM (x0 x1 x2 x3 x4 x5 : AV) (hp : Hp) : (jS).run .lf (.n x0 x1 x2 x3 x4 x5 .uu .uu .e) hp = (uC).run .lf (.n x0 x1 x2 x3 x4 x5 .uu .uu .e) hp := by kernel_rfl
theorem vU (x0 x1 x2 x3 x4 x5 : AV) (hp : Hp) : (uC).run .lf (.n x0 x1 x2 x3 x4 x5 .uu .uu .e) hp = (ae .add 3).f x2 (.int 3 1) (fun v84 => .ok (.n x0 x1 v84 x3 x4 x5 .uu .uu .e) hp) := by kernel_rfl
theorem lF (x0 x1 x2 x3 x4 x5 : AV) (hp : Hp) : (iN).run .lf (.n x0 x1 x2 x3 x4 x5 .uu .uu .e) hp = (jU).run .lf (.n x0 x1 x2 x3 x4 x5 .uu .uu .e) hp := by kernel_rfl
theorem nE (x0 x1 x2 x3 x4 x5 : AV) (hp : Hp) : (jU).run .lf (.n x0 x1 x2 x3 x4 x5 .uu .uu .e) hp = (ae .add 3).f x4 (.int 3 1) (fun v85 => .ok (.n x0 x1 x2 x3 v85 x5 .uu .uu .e) hp) := by kernel_rfl
end
end Go.Proofs.YtbamejikafhenaaDoor.Tz
namespace Go.Proofs.YtbamejikafhenaaDoor.Tz
noncomputable section
def fin4 : aa → aa := eN cr4
theorem t4 (x0 x1 : AV) (hp : Hp) : r4.f (.nd x0 .lf (.nd x1 .lf .lf)) hp = fin4 (cF mem (aY mem) x0 3 3 hp (fun v0 v1 => aq mem true 3 v0 v1 (fun v2 => au mem false r16 (.nd v2 .lf .lf) v1 (fun v3 v4 => gd v3 false v4 (fun k5 => k5 x1 v4) (fun v6 v7 => gd v3 false v7 (fun k8 => cz mem 1 v6 v7 (fun v9 => ar (Nat.ble v9 9223372036854775807) (k8 (.int 3 v9) v7))) (fun v10 v11 => gd v3 false v11 (fun k12 => (ae .gtr 3).f v10 (.int 3 100) (fun v13 => k12 v13 v11)) (fun v14 v15 => gd v3 false v15 (fun k16 => k16 v14 v15) (fun v17 v18 => gd v17 true v18 (fun k19 => k19 x1 v18) (fun v20 v21 => gd v17 true v21 (fun k22 => cz mem 1 v20 v21 (fun v23 => ar (Nat.ble v23 9223372036854775807) (k22 (.int 3 v23) v21))) (fun v24 v25 => gd v17 true v25 (fun k26 => (ae .leq 3).f v24 (.int 3 2000) (fun v27 => k26 v27 v25)) (fun v28 v29 => gd v3 false v29 (fun k30 => aI v17 (fun v31 => v31 v28) (fun v32 => v32 (.bool false)) (fun v33 => k30 v33 v29)) (fun v34 v35 => aI v3 (fun v36 => v36 (.bool true)) (fun v37 => v37 v34) (fun v38 => gd v38 false v35 (fun k39 => k39 x1 v35) (fun v40 v41 => gd v38 false v41 (fun k42 => cz mem 1 v40 v41 (fun v43 => ar (Nat.ble v43 9223372036854775807) (k42 (.int 3 v43) v41))) (fun v44 v45 => gd v38 false v45 (fun k46 => (ae .gtr 3).f v44 (.int 3 2010) (fun v47 => k46 v47 v45)) (fun v48 v49 => aI v38 (fun v50 => v50 (.bool true)) (fun v51 => v51 v48) (fun v52 => .ret (.n x0 x1 v52 .uu .uu .uu .uu .uu .e) v49))))))))))))))))) := (congrArg (fun F => bN.f F (.nd x0 .lf (.nd x1 .lf .lf)) hp) (ba cr4).symm).trans (by kernel_rfl)
theorem ret4 (x0 x1 x2 : AV) (hp : Hp) : fin4 (.ret (.n x0 x1 x2 .uu .uu .uu .uu .uu .e) hp) = .val x2 hp := by kernel_rfl
end
attribute [local irreducible] mem
set_option linter.unusedSimpArgs false
attribute [local congr] di aJ bM dh dm bj de cm aW cf cn c9 bh bK bH aX eJ cg cb cj bm bk aK aO eG bG cq bL bO bD bF ck c7 bl bJ dd bE bI bC
structure cD where
  n : Nat
  nm : Nat → List UInt8
  pa : Nat → Int
  re : Nat → Int
  sl : Nat → AV
  cd : Nat → AV
  sz : Nat → AV
  lv : Nat → AV
  ns : Nat → Nat
  nc : Nat → Nat
  sn : Nat → Nat → List UInt8
  st : Nat → Nat → AV
  op : Nat → Nat → Nat
  ia : Nat → Nat → Int
  ib : Nat → Nat → Int
  ic : Nat → Nat → Int
  ty : AV
  tx : AV
  fs : AV
  ft : Row
  ct : Nat → Row
  lt : Nat → Row
noncomputable def cD.fn (m : cD) (i : Nat) : List AV := [S (m.nm i), I (m.pa i), I (m.re i), m.sl i, m.cd i, m.sz i, m.lv i]
def cD.ins (m : cD) (i j : Nat) : List AV := [B8 (m.op i j), I (m.ia i j), I (m.ib i j), I (m.ic i j)]
noncomputable def cD.slot (m : cD) (i j : Nat) : List AV := [S (m.sn i j), m.st i j]
theorem ua (m : cD) (i : Nat) : m.fn i = [S (m.nm i), I (m.pa i), I (m.re i), m.sl i, m.cd i, m.sz i, m.lv i] := nd rfl
theorem a0G (m : cD) (i j : Nat) : m.ins i j = [B8 (m.op i j), I (m.ia i j), I (m.ib i j), I (m.ic i j)] := nd rfl
theorem afk (m : cD) (i j : Nat) : m.slot i j = [S (m.sn i j), m.st i j] := nd rfl
def cD.av (m : cD) : AV := .agg (aw [m.ty, m.tx, m.fs]) 3
def ack (v : AV) : Prop := ∀ q, ∀ hp k, (pN mem (q + 1)).f hp v k = k v hp
structure bz (m : cD) : Prop where
  fs : mK 7 m.fs m.n m.ft
  fr : dV 7 m.n m.ft m.fn
  cd : ∀ i, i < m.n → mK 4 (m.cd i) (m.nc i) (m.ct i)
  cr : ∀ i, i < m.n → dV 4 (m.nc i) (m.ct i) (m.ins i)
  sl : ∀ i, i < m.n → mK 2 (m.sl i) (m.ns i) (m.lt i)
  sr : ∀ i, i < m.n → dV 2 (m.ns i) (m.lt i) (m.slot i)
  nm : ∀ i, i < m.n → (m.nm i).length < 9223372036854775808
  sn : ∀ i j, i < m.n → j < m.ns i → (m.sn i j).length < 9223372036854775808
  op : ∀ i j, i < m.n → j < m.nc i → m.op i j < 256
  sz : ∀ i, i < m.n → One (m.sz i) ∧ One (m.lv i)
  ty : One m.ty ∧ ack m.ty
  tx : One m.tx ∧ ack m.tx
theorem cD.still {m : cD} (h : bz m) : ∀ hp k, (pN mem 24).f hp m.av k = k m.av hp := by
  refine a3M (M := mem) (m := 22) fun v hv => ?_
  simp only [List.mem_cons, List.not_mem_nil, or_false] at hv
  rcases hv with rfl | rfl | rfl
  · exact h.ty.2 22
  · exact h.tx.2 22
  · exact h.fs.still 22
structure Mk where
  step : Int
  g : Int
  f : Int
  at' : Int
  op : Nat
  fr : Int
  out : Nat
def Mk.l (x : Mk) : List AV := [I x.step, I x.g, I x.f, I x.at', B8 x.op, I x.fr, B8 x.out]
def Mk.av (x : Mk) : AV := .agg (aw x.l) 7
structure Mk.Ok (x : Mk) : Prop where
  step : gD x.step
  g : gD x.g
  f : gD x.f
  at' : gD x.at'
  op : x.op < 256
  fr : gD x.fr
  out : x.out < 256
def Fits (m : cD) (x : Mk) : Prop := (0 ≤ x.step ∧ x.step ≤ 5000 ∧ 0 ≤ x.g ∧ x.g < 16 ∧ 0 ≤ x.f ∧ x.f < m.n ∧ 0 ≤ x.fr ∧ x.fr ≤ 170 ∧ x.out ≤ 8) ∧ (m.nm x.f.toNat).length ≤ 16 ∧ 0 ≤ x.at' ∧ x.at' < m.nc x.f.toNat ∧ m.op x.f.toNat x.at'.toNat = x.op ∧ 1 ≤ x.op ∧ x.op < 35
instance (m : cD) (x : Mk) : Decidable (Fits m x) := by unfold Fits; infer_instance
theorem bz.sx {m : cD} (h : bz m) (i : Nat) (hi : i < m.n) (hp : Hp) (k : Nat → aa) : cz mem 1 (m.cd i) hp k = k (m.nc i) := (h.cd i hi).len hp k
theorem bz.vH {m : cD} (h : bz m) (i : Nat) (a : Int) (k : AV → aa) (hi : i < m.n ∧ 0 ≤ a ∧ a < m.nc i) : indexAddr 4 (m.cd i) (I a) k = k (.x 1 (m.ct i) (eo 4 a.toNat 0) 4 4) := (h.cd i hi.1).idx a k hi.2.1 hi.2.2
theorem bz.a1M {m : cD} (h : bz m) (i j f q : Nat) (hp : Hp) (k : AV → aa) (hi : i < m.n ∧ j < m.nc i ∧ j < 16777215) (hf : f < 4 ∧ 1 ≤ q) : aq mem false 1 (.x 1 (m.ct i) (eo 4 j f) q 4) hp k = k ((m.ins i j).getD f .uu) := a6k (h.cr i hi.1) hi.2 (by omega) k
theorem abS (n : Nat) : oP n ≤ 1000 := by unfold oP; split <;> decide
theorem a0K {n : Nat} : ((oP n : Int) = 0) ↔ (1 ≤ n ∧ n < 35) := by
  unfold oP; split <;> rename_i h <;> simp [h]
set_option maxHeartbeats 1000000 in
theorem ahL {m : cD} {x : Mk} (h : bz m) (hn : m.n ≤ 40) (hnc : ∀ i, i < m.n → m.nc i ≤ 300) (hx : x.Ok) : db (r13.f (.nd m.av .lf (.nd x.av .lf .lf)) .empty) = some (I ((if Fits m x then 0 else 8 : Nat) : Int)) := by
  obtain ⟨⟨a1, a2⟩, ⟨a3, a4⟩, ⟨a5, a6⟩, ⟨a7, a8⟩, a9, ⟨b1, b2⟩, b3⟩ := hx
  have b4 := hnc x.f.toNat
  have b5 := h.nm x.f.toNat
  have b6 := abS x.op
  simp +contextual (disch := (first | omega | (simp only [Y2] <;> omega) | ((repeat' (first | exact ai | apply ab | apply aj | refine ah (by omega) ?_ ?_)) <;> (simp (disch := (first | omega | (simp only [Y5] <;> omega))) only [Y5, Y8, Nat.reduceAdd, Nat.reduceEqDiff, reduceIte, *])) | exact True.intro | rfl)) only [Y1, cD.av, Mk.av, Mk.l, t13, bx, br, Nat.reduceAdd, Nat.reduceEqDiff, reduceIte, Nat.reduceLeDiff, Nat.reduceSub, apply_ite aau, apply_ite db, ret13, h.fs.len, h.fs.idx, a6r, a13, wL, a6k h.fr, yT h.fr, ua, a0G, h.sx, h.vH, h.a1M, c18, a0K]
  by_cases hF : Fits m x
  · rw [if_pos hF]
    unfold Fits at hF
    have b7 := @a0K x.op
    repeat' (refine qG (fun _ => ?_) (fun _ => ?_))
    all_goals first | rfl | omega
  · rw [if_neg hF]
    have b7 := @a0K x.op
    repeat' (refine qG (fun _ => ?_) (fun _ => ?_))
    all_goals first | rfl | (exfalso; apply hF; unfold Fits; omega)
set_option maxHeartbeats 1000000 in
theorem aiI {m : cD} {x : Mk} (h : bz m) (hn : m.n ≤ 40) (hnc : ∀ i, i < m.n → m.nc i ≤ 300) (hx : x.Ok) : db (r14.f (.nd m.av .lf (.nd x.av .lf .lf)) .empty) = some (I ((if Fits m x then 0 else 8 : Nat) : Int)) := by
  obtain ⟨⟨a1, a2⟩, ⟨a3, a4⟩, ⟨a5, a6⟩, ⟨a7, a8⟩, a9, ⟨b1, b2⟩, b3⟩ := hx
  have b4 := hnc x.f.toNat
  have b5 := h.nm x.f.toNat
  simp +contextual (disch := (first | omega | (simp only [Y2] <;> omega) | ((repeat' (first | exact ai | apply ab | apply aj | refine ah (by omega) ?_ ?_)) <;> (simp (disch := (first | omega | (simp only [Y5] <;> omega))) only [Y5, Y8, Nat.reduceAdd, Nat.reduceEqDiff, reduceIte, *])) | exact True.intro | rfl)) only [Y1, cD.av, Mk.av, Mk.l, t14, bx, br, Nat.reduceAdd, Nat.reduceEqDiff, reduceIte, Nat.reduceLeDiff, Nat.reduceSub, apply_ite abc, apply_ite db, ret14, h.fs.len, h.fs.idx, a5V, a1Z, a6k h.fr, yT h.fr, ua, a0G, h.sx, h.vH, h.a1M, c31, a0l]
  by_cases hF : Fits m x
  · rw [if_pos hF]
    unfold Fits at hF
    repeat' (refine qG (fun _ => ?_) (fun _ => ?_))
    all_goals first | rfl | omega
  · rw [if_neg hF]
    repeat' (refine qG (fun _ => ?_) (fun _ => ?_))
    all_goals first | rfl | (exfalso; apply hF; unfold Fits; omega)
theorem Mk.still {x : Mk} : Still x.av := jr (by rfl)
theorem cD.iS {m : cD} (h : bz m) {l : Row} (hl : ∀ hp k, zl (pN mem 24) l hp k = k l hp) : ∀ hp k, zl (pN mem 24) (.nd m.av .lf l) hp k = k (.nd m.av .lf l) hp := fun hp k => by
  show (pN mem 24).f hp m.av (fun v hp => zl (pN mem 24) l hp fun r hp => k (.nd v .lf r) hp) = _
  rw [cD.still h, hl]
end Go.Proofs.YtbamejikafhenaaDoor.Tz
namespace Go.Proofs.YtbamejikafhenaaDoor.Tz
noncomputable section
def mD : Sm := gT Go.Proofs.YtbamejikafhenaaDoor.Tz.rq [1, 1, 0, 1, 0]
def a0m : Fr → Hp → aa := iA Go.Proofs.YtbamejikafhenaaDoor.Tz.rq [1, 1, 0, 1, 0]
def zi : aa → aa := gX Go.Proofs.YtbamejikafhenaaDoor.Tz.rq [1, 1, 0, 1, 0]
def rI : Sm := aC Go.Proofs.YtbamejikafhenaaDoor.Tz.rq [1, 1, 0, 1, 0, 0, 1, 0]
def a3g : Sm := aC Go.Proofs.YtbamejikafhenaaDoor.Tz.rq [1, 1, 0, 1]
def gP : Sm := aC Go.Proofs.YtbamejikafhenaaDoor.Tz.rq [1, 1, 0, 1, 0, 0, 1, 1, 0, 0, 1, 1, 0, 1]
def fR : Sm := aC Go.Proofs.YtbamejikafhenaaDoor.Tz.rq [1, 1, 0, 1, 0, 0, 1, 1, 0, 0, 1, 1, 0, 1, 1, 1]
def ff : Sm := aC Go.Proofs.YtbamejikafhenaaDoor.Tz.rq [1, 1, 0, 1, 0, 0, 1, 1, 0, 0, 1, 1, 0, 1, 1, 1, 1, 1]
def mj : Sm := aC Go.Proofs.YtbamejikafhenaaDoor.Tz.rq [1, 1, 0, 1, 0, 0, 1, 1, 0, 0, 1, 1]
def pW : Sm := aC Go.Proofs.YtbamejikafhenaaDoor.Tz.rq [1, 1, 0, 1, 0, 0, 1, 1, 0]
def agZ : aa → aa := eN Go.Proofs.YtbamejikafhenaaDoor.Tz.rq
theorem t41 (x0 x1 : AV) (hp : Hp) : r41.f (.nd x0 .lf (.nd x1 .lf .lf)) hp = agZ (lL mem (aY mem) 1 (Tr.full (.int 4 0) 2) 1 1 (.cons (.mk 0 (fun v0 => v0 (.int 4 34))) .nil) hp (fun v1 v2 => cR mem (aY mem) 1 x0 v1 v2 (fun v3 v4 => cz mem 0 x1 v4 (fun v5 => ar (Nat.ble v5 9223372036854775807) (a0m (.n v3 x1 (.x 8 .lf 0 0 0) (.int 3 0) (.int 3 v5) .uu .uu .uu .e) v4))))) := (congrArg (fun F => bN.f F (.nd x0 .lf (.nd x1 .lf .lf)) hp) (ba Go.Proofs.YtbamejikafhenaaDoor.Tz.rq).symm).trans (by kernel_rfl)
theorem ret41 (x0 x1 x2 x3 x4 : AV) (hp : Hp) : agZ (.ret (.n x0 x1 x2 x3 x4 .uu .uu .uu .e) hp) = .val x2 hp := by kernel_rfl
theorem rV (x0 x1 x2 x3 x4 : AV) (hp : Hp) : (mD).run .lf (.n x0 x1 x2 x3 x4 .uu .uu .uu .e) hp = (ae .lss 3).f x3 x4 (fun v6 => AV.ay v6 (fun v7 => when v7 ((rI).run .lf (.n x0 x1 x2 x3 x4 .uu .uu .uu .e) hp) (.exit 0 (.n x0 x1 x2 x3 x4 .uu .uu .uu .e) hp))) := by kernel_rfl
theorem a1U (fr : Fr) (hp : Hp) : a0m fr hp = zi (aD mD 1000000 fr hp) := rfl
theorem a3N (fr : Fr) (hp : Hp) : zi (.exit 0 fr hp) = (a3g).run .lf fr hp := by kernel_rfl
theorem vt (x0 x1 x2 x3 x4 : AV) (hp : Hp) : (rI).run .lf (.n x0 x1 x2 x3 x4 .uu .uu .uu .e) hp = AV.ea x1 (fun v8 v9 => fP x3 v9 (fun v10 => bu 4 (Nat.mod (Nat.div v8 (Nat.pow 256 v10)) 256) (fun v11 => (ae .eql 4).f v11 (.int 4 34) (fun v12 => gd v12 false hp (fun k13 => k13 v11 hp) (fun v14 v15 => gd v12 false v15 (fun k16 => (ae .eql 4).f v14 (.int 4 92) (fun v17 => k16 v17 v15)) (fun v18 v19 => aI v12 (fun v20 => v20 (.bool true)) (fun v21 => v21 v18) (fun v22 => AV.ay v22 (fun v23 => when v23 (lL mem (aY mem) 1 (Tr.full (.int 4 0) 2) 2 2 (.cons (.mk 0 (fun v24 => v24 (.int 4 92))) (.cons (.mk 1 (fun v25 => v25 v11)) .nil)) v19 (fun v26 v27 => cR mem (aY mem) 1 x0 v26 v27 (fun v28 v29 => (gP).run .lf (.n v28 x1 x2 x3 x4 .uu .uu .uu .e) v29))) ((ae .eql 4).f v11 (.int 4 10) (fun v30 => AV.ay v30 (fun v31 => when v31 (lL mem (aY mem) 1 (Tr.full (.int 4 0) 2) 2 2 (.cons (.mk 0 (fun v32 => v32 (.int 4 92))) (.cons (.mk 1 (fun v33 => v33 (.int 4 110))) .nil)) v19 (fun v34 v35 => cR mem (aY mem) 1 x0 v34 v35 (fun v36 v37 => (fR).run .lf (.n v36 x1 x2 x3 x4 .uu .uu .uu .e) v37))) ((ae .lss 4).f v11 (.int 4 32) (fun v38 => gd v38 false v19 (fun k39 => k39 v11 v19) (fun v40 v41 => gd v38 false v41 (fun k42 => (ae .gtr 4).f v40 (.int 4 126) (fun v43 => k42 v43 v41)) (fun v44 v45 => aI v38 (fun v46 => v46 (.bool true)) (fun v47 => v47 v44) (fun v48 => AV.ay v48 (fun v49 => when v49 (eY 10 v45 (fun v50 => (ae .shr 4).f v11 (.int 7 4) (fun v51 => fP v51 16 (fun v52 => bu 4 (Nat.mod (Nat.div 136107713667768957684761770045455085872 (Nat.pow 256 v52)) 256) (fun v53 => (ae .and 4).f v11 (.int 4 15) (fun v54 => fP v54 16 (fun v55 => bu 4 (Nat.mod (Nat.div 136107713667768957684761770045455085872 (Nat.pow 256 v55)) 256) (fun v56 => lL mem (jR mem 7) 1 (Tr.full (.int 4 0) 3) 4 4 (.cons (.mk 0 (fun v57 => v57 (.int 4 92))) (.cons (.mk 1 (fun v58 => v58 (.int 4 120))) (.cons (.mk 2 (fun v59 => v59 v53)) (.cons (.mk 3 (fun v60 => v60 v56)) .nil)))) v50 (fun v61 v62 => cO mem .nil .nil v62 (fun h63 => cR mem (jR mem 8) 1 x0 v61 h63 (fun v64 v65 => .val v64 v65)) (fun v66 v67 => (ff).run .lf (.n v67 x1 x2 x3 x4 .uu .uu .uu .e) v66)))))))))) (lL mem (aY mem) 1 (Tr.full (.int 4 0) 2) 1 1 (.cons (.mk 0 (fun v68 => v68 v11)) .nil) v45 (fun v69 v70 => cR mem (aY mem) 1 x0 v69 v70 (fun v71 v72 => (ff).run .lf (.n v71 x1 x2 x3 x4 .uu .uu .uu .e) v72)))))))))))))))))))) := by kernel_rfl
theorem a3p (x0 x1 x2 x3 x4 : AV) (hp : Hp) : (a3g).run .lf (.n x0 x1 x2 x3 x4 .uu .uu .uu .e) hp = lL mem (aY mem) 1 (Tr.full (.int 4 0) 2) 1 1 (.cons (.mk 0 (fun v73 => v73 (.int 4 34))) .nil) hp (fun v74 v75 => cR mem (aY mem) 1 x0 v74 v75 (fun v76 v77 => .ret (.n x0 x1 v76 x3 x4 .uu .uu .uu .e) v77)) := by kernel_rfl
theorem bY (x0 x1 x2 x3 x4 : AV) (hp : Hp) : (gP).run .lf (.n x0 x1 x2 x3 x4 .uu .uu .uu .e) hp = (mj).run .lf (.n x0 x1 x2 x3 x4 .uu .uu .uu .e) hp := by kernel_rfl
theorem cS (x0 x1 x2 x3 x4 : AV) (hp : Hp) : (fR).run .lf (.n x0 x1 x2 x3 x4 .uu .uu .uu .e) hp = (gP).run .lf (.n x0 x1 x2 x3 x4 .uu .uu .uu .e) hp := by kernel_rfl
theorem dp (x0 x1 x2 x3 x4 : AV) (hp : Hp) : (ff).run .lf (.n x0 x1 x2 x3 x4 .uu .uu .uu .e) hp = (fR).run .lf (.n x0 x1 x2 x3 x4 .uu .uu .uu .e) hp := by kernel_rfl
theorem cH (x0 x1 x2 x3 x4 : AV) (hp : Hp) : (mj).run .lf (.n x0 x1 x2 x3 x4 .uu .uu .uu .e) hp = (pW).run .lf (.n x0 x1 x2 x3 x4 .uu .uu .uu .e) hp := by kernel_rfl
theorem dx (x0 x1 x2 x3 x4 : AV) (hp : Hp) : (pW).run .lf (.n x0 x1 x2 x3 x4 .uu .uu .uu .e) hp = (ae .add 3).f x3 (.int 3 1) (fun v78 => .ok (.n x0 x1 x2 v78 x4 .uu .uu .uu .e) hp) := by kernel_rfl
end
noncomputable section
def a7G : Sm := aC Go.Proofs.YtbamejikafhenaaDoor.Tz.acI [1, 0, 1]
def ah9 : aa → aa := eN Go.Proofs.YtbamejikafhenaaDoor.Tz.acI
theorem t17 (x0 : AV) (hp : Hp) : r17.f (.nd x0 .lf .lf) hp = ah9 (cz mem 0 x0 hp (fun v0 => ar (Nat.ble v0 9223372036854775807) ((ae .gtr 3).f (.int 3 v0) (.int 3 400) (fun v1 => AV.ay v1 (fun v2 => when v2 (.ret (.n x0 (S []) (.int 3 4) .uu .uu .uu .uu .uu .e) hp) ((a7G).run .lf (.n x0 (S []) (.int 3 0) .uu .uu .uu .uu .uu .e) hp)))))) := (congrArg (fun F => bN.f F (.nd x0 .lf .lf) hp) (ba Go.Proofs.YtbamejikafhenaaDoor.Tz.acI).symm).trans (by kernel_rfl)
theorem ret17 (x0 x1 x2 : AV) (hp : Hp) : ah9 (.ret (.n x0 x1 x2 .uu .uu .uu .uu .uu .e) hp) = .val (.bB (.nd x1 .lf (.nd x2 .lf .lf)) 2) hp := by kernel_rfl
theorem a6g (x0 x1 x2 : AV) (hp : Hp) : (a7G).run .lf (.n x0 x1 x2 .uu .uu .uu .uu .uu .e) hp = au mem false r41 (.nd (.x 8 .lf 0 0 0) .lf (.nd x0 .lf .lf)) hp (fun v3 v4 => AV.fg v3 (fun _ _ _ _ => my mem 1 v3 v4 (fun v9 v10 v11 _ => (pack mem v11).f v9 v10 (fun v13 => .ret (.n x0 (.str v13 v11) (.int 3 0) .uu .uu .uu .uu .uu .e) v4))) (fun _ _ _ _ => my mem 1 v3 v4 (fun v18 v19 v20 _ => (pack mem v20).f v18 v19 (fun v22 => .ret (.n x0 (.str v22 v20) (.int 3 0) .uu .uu .uu .uu .uu .e) v4))) (fun v23 => ar (or (Nat.beq v23 8) (Nat.beq v23 6)) (.ret (.n x0 (S []) (.int 3 0) .uu .uu .uu .uu .uu .e) v4)) (fun _ _ => .fail)) := by kernel_rfl
end
attribute [local irreducible] mem
set_option linter.unusedSimpArgs false
attribute [local congr] di aJ bM dh dm bj de cm aW cf cn c9 bh bK bH aX eJ cg cb cj bm bk aK aO eG bG cq bL bO bD bF ck c7 bl bJ dd bE bI bC
set_option maxHeartbeats 1000000 in
theorem ahY {s : List UInt8} {i : Nat} (hi : i < s.length) (hs : s.length ≤ 400) {a x2 : AV} {hp : Hp} {acc : List UInt8} (ha : mw hp a acc) (hpr : hp.pr = []) (hnx : hp.nx ≤ 20000) (hacc : acc.length ≤ 10000) :
    ∃ a' hp', mw hp' a' (acc ++ iP (s.getD i 0).toNat) ∧ hp'.pr = [] ∧ hp'.nx ≤ hp.nx + 10 ∧ (mD).run .lf (.n a (S s) x2 (I i) (I s.length) .uu .uu .uu .e) hp = .ok (.n a' (S s) x2 (I (i + 1 : Nat)) (I s.length) .uu .uu .uu .e) hp' := by
  have hc := (s.getD i 0).toNat_lt
  generalize hcc : s.getD i 0 = cc at hc
  have e1 : (cc.toNat.toUInt8) = cc := by simp
  simp +contextual (disch := (first | omega | (simp only [Y2] <;> omega) | ((repeat' (first | exact ai | apply ab | apply aj | refine ah (by omega) ?_ ?_)) <;> (simp (disch := (first | omega | (simp only [Y5] <;> omega))) only [Y5, Y8, Nat.reduceAdd, Nat.reduceEqDiff, reduceIte, *])) | exact True.intro | rfl)) only [Y1, rV, vt, bY, cS, dp, cH, dx, bx, br, Nat.reduceAdd, Nat.reduceEqDiff, reduceIte, Nat.reduceLeDiff, Nat.reduceSub, hcc]
  rw [if_pos (by omega)]
  by_cases h34 : cc.toNat = 34
  · obtain ⟨a', h', q1, q2, q3, q4⟩ := pG (Tr.full (B8 0) 2) [92, cc] ha (by omega) (by simp) hpr (by simp; omega)
    simp only [List.length_cons, List.length_nil, lits, UInt8.reduceToNat, Nat.reduceAdd, h34] at q4
    rw [if_pos h34]
    refine ⟨a', h', ?_, q3, by omega, ?_⟩
    · unfold iP; rw [if_pos (.inl h34), e1]; exact q1
    · rw [q4]
      simp +contextual (disch := (first | omega | (simp only [Y2] <;> omega) | ((repeat' (first | exact ai | apply ab | apply aj | refine ah (by omega) ?_ ?_)) <;> (simp (disch := (first | omega | (simp only [Y5] <;> omega))) only [Y5, Y8, Nat.reduceAdd, Nat.reduceEqDiff, reduceIte, *])) | exact True.intro | rfl)) only [Y1, bY, cH, dx, bx, br, Nat.reduceAdd, Nat.reduceEqDiff, reduceIte, Nat.reduceLeDiff, Nat.reduceSub, Int.natCast_add]
  rw [if_neg h34]
  by_cases h92 : cc.toNat = 92
  · obtain ⟨a', h', q1, q2, q3, q4⟩ := pG (Tr.full (B8 0) 2) [92, cc] ha (by omega) (by simp) hpr (by simp; omega)
    simp only [List.length_cons, List.length_nil, lits, UInt8.reduceToNat, Nat.reduceAdd, h92] at q4
    rw [if_pos h92]
    refine ⟨a', h', ?_, q3, by omega, ?_⟩
    · unfold iP; rw [if_pos (.inr h92), e1]; exact q1
    · rw [q4]
      simp +contextual (disch := (first | omega | (simp only [Y2] <;> omega) | ((repeat' (first | exact ai | apply ab | apply aj | refine ah (by omega) ?_ ?_)) <;> (simp (disch := (first | omega | (simp only [Y5] <;> omega))) only [Y5, Y8, Nat.reduceAdd, Nat.reduceEqDiff, reduceIte, *])) | exact True.intro | rfl)) only [Y1, bY, cH, dx, bx, br, Nat.reduceAdd, Nat.reduceEqDiff, reduceIte, Nat.reduceLeDiff, Nat.reduceSub, Int.natCast_add]
  rw [if_neg h92]
  by_cases h10 : cc.toNat = 10
  · obtain ⟨a', h', q1, q2, q3, q4⟩ := pG (Tr.full (B8 0) 2) [92, 110] ha (by omega) (by simp) hpr (by simp; omega)
    simp only [List.length_cons, List.length_nil, lits, UInt8.reduceToNat, Nat.reduceAdd] at q4
    rw [if_pos h10]
    refine ⟨a', h', ?_, q3, by omega, ?_⟩
    · unfold iP; rw [if_neg (by omega), if_pos h10]; exact q1
    · rw [q4]
      simp +contextual (disch := (first | omega | (simp only [Y2] <;> omega) | ((repeat' (first | exact ai | apply ab | apply aj | refine ah (by omega) ?_ ?_)) <;> (simp (disch := (first | omega | (simp only [Y5] <;> omega))) only [Y5, Y8, Nat.reduceAdd, Nat.reduceEqDiff, reduceIte, *])) | exact True.intro | rfl)) only [Y1, cS, bY, cH, dx, bx, br, Nat.reduceAdd, Nat.reduceEqDiff, reduceIte, Nat.reduceLeDiff, Nat.reduceSub, Int.natCast_add]
  rw [if_neg h10]
  by_cases hx : cc.toNat < 32 ∨ 126 < cc.toNat
  · obtain ⟨a', h', q1, q2, q3, q4⟩ := aaa (Tr.full (B8 0) 3) (n := 10) (i := 7) (j := 8) [92, 120, dg (cc.toNat / 16), dg (cc.toNat % 16)] ha (by omega) (by omega) (by omega) (by omega) (by simp) hpr (by simp; omega)
    simp only [List.length_cons, List.length_nil, lits, UInt8.reduceToNat, Nat.reduceAdd] at q4
    refine ⟨a', h', ?_, q3, by omega, ?_⟩
    · unfold iP; rw [if_neg (by omega), if_neg h10, if_pos hx]; exact q1
    · rw [q4]
      by_cases h32 : cc.toNat < 32
      · rw [if_pos h32]
        simp +contextual (disch := (first | omega | (simp only [Y2] <;> omega) | ((repeat' (first | exact ai | apply ab | apply aj | refine ah (by omega) ?_ ?_)) <;> (simp (disch := (first | omega | (simp only [Y5] <;> omega))) only [Y5, Y8, Nat.reduceAdd, Nat.reduceEqDiff, reduceIte, *])) | exact True.intro | rfl)) only [Y1, dp, cS, bY, cH, dx, bx, br, Nat.reduceAdd, Nat.reduceEqDiff, reduceIte, Nat.reduceLeDiff, Nat.reduceSub, Int.natCast_add]
      · rw [if_neg h32, if_pos (by omega)]
        simp +contextual (disch := (first | omega | (simp only [Y2] <;> omega) | ((repeat' (first | exact ai | apply ab | apply aj | refine ah (by omega) ?_ ?_)) <;> (simp (disch := (first | omega | (simp only [Y5] <;> omega))) only [Y5, Y8, Nat.reduceAdd, Nat.reduceEqDiff, reduceIte, *])) | exact True.intro | rfl)) only [Y1, dp, cS, bY, cH, dx, bx, br, Nat.reduceAdd, Nat.reduceEqDiff, reduceIte, Nat.reduceLeDiff, Nat.reduceSub, Int.natCast_add]
  · rw [if_neg (by omega), if_neg (by omega)]
    obtain ⟨a', h', q1, q2, q3, q4⟩ := pG (Tr.full (B8 0) 2) [cc] ha (by omega) (by simp) hpr (by simp; omega)
    simp only [List.length_cons, List.length_nil, lits, UInt8.reduceToNat, Nat.reduceAdd] at q4
    refine ⟨a', h', ?_, q3, by omega, ?_⟩
    · unfold iP; rw [if_neg (by omega), if_neg h10, if_neg hx, e1]; exact q1
    · rw [q4]
      simp +contextual (disch := (first | omega | (simp only [Y2] <;> omega) | ((repeat' (first | exact ai | apply ab | apply aj | refine ah (by omega) ?_ ?_)) <;> (simp (disch := (first | omega | (simp only [Y5] <;> omega))) only [Y5, Y8, Nat.reduceAdd, Nat.reduceEqDiff, reduceIte, *])) | exact True.intro | rfl)) only [Y1, dp, cS, bY, cH, dx, bx, br, Nat.reduceAdd, Nat.reduceEqDiff, reduceIte, Nat.reduceLeDiff, Nat.reduceSub, Int.natCast_add]
theorem abQ {s : List UInt8} (hs : s.length ≤ 400) : ∀ (f i : Nat) (a x2 : AV) (hp : Hp) (acc : List UInt8) (fuel : Nat), s.length - i = f → i ≤ s.length → f < fuel → mw hp a acc → hp.pr = [] → hp.nx + 10 * f ≤ 10000 → acc.length + 4 * f ≤ 9000 →
    ∃ a' hp', mw hp' a' (acc ++ (s.drop i).flatMap (fun c => iP c.toNat)) ∧ hp'.pr = [] ∧ hp'.nx ≤ 10000 ∧ aD mD fuel (.n a (S s) x2 (I i) (I s.length) .uu .uu .uu .e) hp = .exit 0 (.n a' (S s) x2 (I s.length) (I s.length) .uu .uu .uu .e) hp'
  | f, i, a, x2, hp, acc, 0, _, _, h, _, _, _, _ => absurd h (Nat.not_lt_zero _)
  | f, i, a, x2, hp, acc, fuel + 1, hf, hi, hfu, ha, hpr, hnx, hacc => by
    by_cases hil : i < s.length
    · obtain ⟨a', hp', q1, q2, q3, q4⟩ := ahY (x2 := x2) hil hs ha hpr (by omega) (by omega)
      have hc4 := tS (s.getD i 0).toNat
      obtain ⟨a2, hp2, w1, w2, w3, w4⟩ := abQ hs (f - 1) (i + 1) a' x2 hp' (acc ++ iP (s.getD i 0).toNat) fuel (by omega) (by omega) (by omega) q1 q2 (by omega) (by rw [List.length_append]; omega)
      refine ⟨a2, hp2, ?_, w2, w3, (cY q4).trans w4⟩
      rw [List.append_assoc] at w1
      rw [List.drop_eq_getElem_cons hil, List.flatMap_cons]
      have e : s.getD i 0 = s[i] := by simp [List.getD, hil]
      rw [e] at w1
      exact w1
    · have hi2 : i = s.length := by omega
      subst hi2
      refine ⟨a, hp, ?_, hpr, by omega, cE ?_⟩
      · rw [List.drop_length, List.flatMap_nil, List.append_nil]; exact ha
      · simp +contextual (disch := (first | omega | (simp only [Y2] <;> omega) | ((repeat' (first | exact ai | apply ab | apply aj | refine ah (by omega) ?_ ?_)) <;> (simp (disch := (first | omega | (simp only [Y5] <;> omega))) only [Y5, Y8, Nat.reduceAdd, Nat.reduceEqDiff, reduceIte, *])) | exact True.intro | rfl)) only [Y1, rV, bx, br, Nat.reduceAdd, Nat.reduceEqDiff, reduceIte, Nat.reduceLeDiff, Nat.reduceSub, Int.lt_irrefl]
theorem ac0 (h : Hp) : mw h (.x 8 .lf 0 0 0) [] := .inl ⟨rfl, rfl⟩
theorem aiy {s : List UInt8} (hs : s.length ≤ 400) : ∃ a hp', mw hp' a (j5 s) ∧ hp'.nx ≤ 20000 ∧ r41.f (.nd (.x 8 .lf 0 0 0) .lf (.nd (S s) .lf .lf)) .empty = .val a hp' := by
  obtain ⟨a1, h1, q1, q2, q3, q4⟩ := pG (h := .empty) (Tr.full (B8 0) 2) [34] (ac0 _) (by decide) (by simp) rfl (by simp)
  simp only [List.length_cons, List.length_nil, lits, UInt8.reduceToNat, Nat.reduceAdd] at q4
  rw [a8S] at q2
  obtain ⟨a2, h2, w1, w2, w3, w4⟩ := abQ hs s.length 0 a1 (.x 8 .lf 0 0 0) h1 ([] ++ [34]) 1000000 (by omega) (by omega) (by omega) q1 q3 (by omega) (by simp; omega)
  have hfl := a3E s
  obtain ⟨a3, h3, e1, e2, e3, e4⟩ := pG (h := h2) (Tr.full (B8 0) 2) [34] w1 (by omega) (by simp) w2 (by simp only [List.length_append, List.length_cons, List.length_nil, List.drop_zero]; omega)
  simp only [List.length_cons, List.length_nil, lits, UInt8.reduceToNat, Nat.reduceAdd] at e4
  refine ⟨a3, h3, ?_, by omega, ?_⟩
  · unfold j5
    rw [List.drop_zero] at e1
    simpa using e1
  · simp +contextual (disch := (first | omega | (simp only [Y2] <;> omega) | ((repeat' (first | exact ai | apply ab | apply aj | refine ah (by omega) ?_ ?_)) <;> (simp (disch := (first | omega | (simp only [Y5] <;> omega))) only [Y5, Y8, Nat.reduceAdd, Nat.reduceEqDiff, reduceIte, *])) | exact True.intro | rfl)) only [Y1, t41, bx, br, Nat.reduceAdd, Nat.reduceEqDiff, reduceIte, Nat.reduceLeDiff, Nat.reduceSub]
    rw [q4]
    simp +contextual (disch := (first | omega | (simp only [Y2] <;> omega) | ((repeat' (first | exact ai | apply ab | apply aj | refine ah (by omega) ?_ ?_)) <;> (simp (disch := (first | omega | (simp only [Y5] <;> omega))) only [Y5, Y8, Nat.reduceAdd, Nat.reduceEqDiff, reduceIte, *])) | exact True.intro | rfl)) only [Y1, a1U, bx, br, Nat.reduceAdd, Nat.reduceEqDiff, reduceIte, Nat.reduceLeDiff, Nat.reduceSub]
    have w5 : aD mD 1000000 (.n a1 (S s) (.x 8 .lf 0 0 0) (I 0) (I s.length) .uu .uu .uu .e) h1 = _ := w4
    rw [w5]
    simp +contextual (disch := (first | omega | (simp only [Y2] <;> omega) | ((repeat' (first | exact ai | apply ab | apply aj | refine ah (by omega) ?_ ?_)) <;> (simp (disch := (first | omega | (simp only [Y5] <;> omega))) only [Y5, Y8, Nat.reduceAdd, Nat.reduceEqDiff, reduceIte, *])) | exact True.intro | rfl)) only [Y1, a3N, a3p, bx, br, Nat.reduceAdd, Nat.reduceEqDiff, reduceIte, Nat.reduceLeDiff, Nat.reduceSub]
    rw [e4, ret41]
end Go.Proofs.YtbamejikafhenaaDoor.Tz
namespace Go.Proofs.YtbamejikafhenaaDoor.Tz
attribute [local irreducible] mem
set_option linter.unusedSimpArgs false
attribute [local congr] di aJ bM dh dm bj de cm aW cf cn c9 bh bK bH aX eJ cg cb cj bm bk aK aO eG bG cq bL bO bD bF ck c7 bl bJ dd bE bI bC
theorem zI (s : List UInt8) : j5 s ≠ [] := List.cons_ne_nil _ _
theorem kQ (s : List UInt8) : (j5 s).length ≤ 4 * s.length + 2 := by
  have := a3E s
  unfold j5
  simp only [List.length_cons, List.length_append, List.length_nil]; omega
theorem aiP {s : List UInt8} (hs : s.length ≤ 400) : db (r17.f (.nd (S s) .lf .lf) .empty) = some (.bB (.nd (S (j5 s)) .lf (.nd (I 0) .lf .lf)) 2) := by
  obtain ⟨a, hc, h1, h2, h3⟩ := aiy hs
  have hq := kQ s
  obtain ⟨a', hp', q1, q2, q3, q4⟩ := callB (hp := .empty) (.nd a5s (.nd (aV s) .lf)) h1 (zI s) (by omega) (by decide) h3
  rw [a8S] at q2
  simp +contextual (disch := (first | omega | (simp only [Y2] <;> omega) | ((repeat' (first | exact ai | apply ab | apply aj | refine ah (by omega) ?_ ?_)) <;> (simp (disch := (first | omega | (simp only [Y5] <;> omega))) only [Y5, Y8, Nat.reduceAdd, Nat.reduceEqDiff, reduceIte, *])) | exact True.intro | rfl)) only [Y1, t17, bx, br, Nat.reduceAdd, Nat.reduceEqDiff, reduceIte, Nat.reduceLeDiff, Nat.reduceSub]
  rw [if_neg (by omega)]
  simp +contextual (disch := (first | omega | (simp only [Y2] <;> omega) | ((repeat' (first | exact ai | apply ab | apply aj | refine ah (by omega) ?_ ?_)) <;> (simp (disch := (first | omega | (simp only [Y5] <;> omega))) only [Y5, Y8, Nat.reduceAdd, Nat.reduceEqDiff, reduceIte, *])) | exact True.intro | rfl)) only [Y1, a6g, bx, br, Nat.reduceAdd, Nat.reduceEqDiff, reduceIte, Nat.reduceLeDiff, Nat.reduceSub]
  rw [q4, ac8 q1 (zI s) (by omega) (by omega) (F := fun s n => .ret _ hp')]
  rw [ret17]
  rfl
end Go.Proofs.YtbamejikafhenaaDoor.Tz
namespace Go.Proofs.YtbamejikafhenaaDoor.Tz
noncomputable section
def a6H : Sm := aC cr5 [1, 0, 1, 1]
def a3u : Sm := aC cr5 [1, 1, 1, 0, 1]
def xg : Sm := aC cr5 [1, 1, 1, 1, 1, 0, 1]
def qY : Sm := aC cr5 [1, 1, 1, 1, 1, 1, 1, 0, 1]
def pf : Sm := aC cr5 [1, 1, 1, 1, 1, 1, 1, 1, 1, 0, 1]
def fin5 : aa → aa := eN cr5
theorem t5 (x0 x1 : AV) (hp : Hp) : r5.f (.nd x0 .lf (.nd x1 .lf .lf)) hp = fin5 (cF mem (aY mem) x0 3 3 hp (fun v0 v1 => cF mem (aY mem) x1 7 7 v1 (fun v2 v3 => aq mem true 3 v0 v3 (fun v4 => aq mem true 7 v2 v3 (fun v5 => au mem false r13 (.nd v4 .lf (.nd v5 .lf .lf)) v3 (fun v6 v7 => (ae .neq 3).f v6 (.int 3 0) (fun v8 => AV.ay v8 (fun v9 => when v9 (.ret (.n x0 x1 (S []) v6 v0 v2 .uu .uu (.n .uu .uu .uu .uu .uu .uu .uu .uu .e)) v7) ((a6H).run .lf (.n x0 x1 (S []) (.int 3 0) v0 v2 .uu .uu (.n .uu .uu .uu .uu .uu .uu .uu .uu .e)) v7))))))))) := (congrArg (fun F => bN.f F (.nd x0 .lf (.nd x1 .lf .lf)) hp) (ba cr5).symm).trans (by kernel_rfl)
theorem ret5 (x0 x1 x2 x3 x4 x5 x6 x7 x8 x9 : AV) (hp : Hp) : fin5 (.ret (.n x0 x1 x2 x3 x4 x5 x6 x7 (.n x8 x9 .uu .uu .uu .uu .uu .uu .e)) hp) = .val (.bB (.nd x2 .lf (.nd x3 .lf .lf)) 2) hp := by kernel_rfl
theorem a5J (x0 x1 x2 x3 x4 x5 x6 x7 x8 x9 : AV) (hp : Hp) : (a6H).run .lf (.n x0 x1 x2 x3 x4 x5 x6 x7 (.n x8 x9 .uu .uu .uu .uu .uu .uu .e)) hp = fieldAddr 2 x4 (fun v10 => aq mem false 1 v10 hp (fun v11 => fieldAddr 2 x5 (fun v12 => aq mem false 1 v12 hp (fun v13 => indexAddr 7 v11 v13 (fun v14 => fieldAddr 0 v14 (fun v15 => aq mem false 1 v15 hp (fun v16 => au mem false r17 (.nd v16 .lf .lf) hp (fun v17 v18 => bg 0 v17 (fun v19 => bg 1 v17 (fun v20 => (ae .neq 3).f v20 (.int 3 0) (fun v21 => AV.ay v21 (fun v22 => when v22 (.ret (.n x0 x1 (S []) v20 x4 x5 v19 x7 (.n x8 x9 .uu .uu .uu .uu .uu .uu .e)) v18) ((a3u).run .lf (.n x0 x1 x2 x3 x4 x5 v19 x7 (.n x8 x9 .uu .uu .uu .uu .uu .uu .e)) v18))))))))))))) := by kernel_rfl
theorem a3i (x0 x1 x2 x3 x4 x5 x6 x7 x8 x9 : AV) (hp : Hp) : (a3u).run .lf (.n x0 x1 x2 x3 x4 x5 x6 x7 (.n x8 x9 .uu .uu .uu .uu .uu .uu .e)) hp = fieldAddr 4 x5 (fun v23 => aq mem false 1 v23 hp (fun v24 => au mem false r18 (.nd v24 .lf .lf) hp (fun v25 v26 => bg 0 v25 (fun v27 => bg 1 v25 (fun v28 => (ae .neq 3).f v28 (.int 3 0) (fun v29 => AV.ay v29 (fun v30 => when v30 (.ret (.n x0 x1 (S []) v28 x4 x5 x6 v27 (.n x8 x9 .uu .uu .uu .uu .uu .uu .e)) v26) ((xg).run .lf (.n x0 x1 x2 x3 x4 x5 x6 v27 (.n x8 x9 .uu .uu .uu .uu .uu .uu .e)) v26)))))))) := by kernel_rfl
theorem yE (x0 x1 x2 x3 x4 x5 x6 x7 x8 x9 : AV) (hp : Hp) : (xg).run .lf (.n x0 x1 x2 x3 x4 x5 x6 x7 (.n x8 x9 .uu .uu .uu .uu .uu .uu .e)) hp = eY 30 hp (fun v31 => fieldAddr 0 x5 (fun v32 => aq mem false 1 v32 v31 (fun v33 => fieldAddr 1 x5 (fun v34 => aq mem false 1 v34 v31 (fun v35 => fieldAddr 2 x5 (fun v36 => aq mem false 1 v36 v31 (fun v37 => fieldAddr 3 x5 (fun v38 => aq mem false 1 v38 v31 (fun v39 => fieldAddr 5 x5 (fun v40 => aq mem false 1 v40 v31 (fun v41 => cO mem .nil (.cons (fun v45 => v45 v40) (.cons (fun v46 => v46 v38) (.cons (fun v47 => v47 v36) (.cons (fun v48 => v48 v34) .nil)))) v31 (fun h42 => au mem false r19 (.nd v33 .lf .lf) h42 (fun v43 v44 => .val v43 v44)) (fun v49 v50 => (cx .add).f v50 (S [58, 32, 103, 111, 114, 111, 117, 116, 105, 110, 101, 32]) (fun v51 => cO mem .nil (.cons (fun v55 => v55 v40) (.cons (fun v56 => v56 v38) (.cons (fun v57 => v57 v36) .nil))) v49 (fun h52 => au mem false r19 (.nd v35 .lf .lf) h52 (fun v53 v54 => .val v53 v54)) (fun v58 v59 => (cx .add).f v51 v59 (fun v60 => (cx .add).f v60 (S [32]) (fun v61 => (cx .add).f v61 x6 (fun v62 => (cx .add).f v62 (S [32]) (fun v63 => cO mem .nil (.cons (fun v67 => v67 v40) (.cons (fun v68 => v68 v38) .nil)) v58 (fun h64 => au mem false r19 (.nd v37 .lf .lf) h64 (fun v65 v66 => .val v65 v66)) (fun v69 v70 => (cx .add).f v63 v70 (fun v71 => (cx .add).f v71 (S [32, 97, 116, 32]) (fun v72 => cO mem .nil (.cons (fun v76 => v76 v40) .nil) v69 (fun h73 => au mem false r19 (.nd v39 .lf .lf) h73 (fun v74 v75 => .val v74 v75)) (fun v77 v78 => (cx .add).f v72 v78 (fun v79 => (cx .add).f v79 (S [32]) (fun v80 => (cx .add).f v80 x7 (fun v81 => (cx .add).f v81 (S [44, 32, 102, 114, 97, 109, 101, 115, 32]) (fun v82 => cO mem .nil .nil v77 (fun h83 => au mem false r19 (.nd v41 .lf .lf) h83 (fun v84 v85 => .val v84 v85)) (fun v86 v87 => (cx .add).f v82 v87 (fun v88 => fieldAddr 6 x5 (fun v89 => aq mem false 1 v89 v86 (fun v90 => (ae .eql 4).f v90 (.int 4 0) (fun v91 => AV.ay v91 (fun v92 => when v92 (.ret (.n x0 x1 v88 (.int 3 0) x4 x5 x6 x7 (.n v88 x9 .uu .uu .uu .uu .uu .uu .e)) v86) ((qY).run .lf (.n x0 x1 x2 x3 x4 x5 x6 x7 (.n v88 x9 .uu .uu .uu .uu .uu .uu .e)) v86))))))))))))))))))))))))))))))))) := by kernel_rfl
theorem vo (x0 x1 x2 x3 x4 x5 x6 x7 x8 x9 : AV) (hp : Hp) : (qY).run .lf (.n x0 x1 x2 x3 x4 x5 x6 x7 (.n x8 x9 .uu .uu .uu .uu .uu .uu .e)) hp = fieldAddr 6 x5 (fun v93 => aq mem false 1 v93 hp (fun v94 => au mem false r20 (.nd v94 .lf .lf) hp (fun v95 v96 => bg 0 v95 (fun v97 => bg 1 v95 (fun v98 => (ae .neq 3).f v98 (.int 3 0) (fun v99 => AV.ay v99 (fun v100 => when v100 (.ret (.n x0 x1 (S []) v98 x4 x5 x6 x7 (.n x8 v97 .uu .uu .uu .uu .uu .uu .e)) v96) ((pf).run .lf (.n x0 x1 x2 x3 x4 x5 x6 x7 (.n x8 v97 .uu .uu .uu .uu .uu .uu .e)) v96)))))))) := by kernel_rfl
theorem rz (x0 x1 x2 x3 x4 x5 x6 x7 x8 x9 : AV) (hp : Hp) : (pf).run .lf (.n x0 x1 x2 x3 x4 x5 x6 x7 (.n x8 x9 .uu .uu .uu .uu .uu .uu .e)) hp = (cx .add).f x8 (S [44, 32]) (fun v101 => (cx .add).f v101 x9 (fun v102 => .ret (.n x0 x1 v102 (.int 3 0) x4 x5 x6 x7 (.n x8 x9 .uu .uu .uu .uu .uu .uu .e)) hp)) := by kernel_rfl
end
noncomputable section
def yq : Sm := aC Go.Proofs.YtbamejikafhenaaDoor.Tz.ac3 [1, 1, 0, 1]
def aaD : aa → aa := eN Go.Proofs.YtbamejikafhenaaDoor.Tz.ac3
theorem t21 (x0 x1 : AV) (hp : Hp) : r21.f (.nd x0 .lf (.nd x1 .lf .lf)) hp = aaD (cF mem (aY mem) x0 3 3 hp (fun v0 v1 => cF mem (aY mem) x1 7 7 v1 (fun v2 v3 => eY 39 v3 (fun v4 => fieldAddr 0 v2 (fun v5 => aq mem false 1 v5 v4 (fun v6 => fieldAddr 1 v2 (fun v7 => aq mem false 1 v7 v4 (fun v8 => fieldAddr 2 v0 (fun v9 => aq mem false 1 v9 v4 (fun v10 => fieldAddr 2 v2 (fun v11 => aq mem false 1 v11 v4 (fun v12 => indexAddr 7 v10 v12 (fun v13 => fieldAddr 0 v13 (fun v14 => aq mem false 1 v14 v4 (fun v15 => fieldAddr 2 v2 (fun v16 => aq mem false 1 v16 v4 (fun v17 => fieldAddr 3 v2 (fun v18 => aq mem false 1 v18 v4 (fun v19 => fieldAddr 4 v2 (fun v20 => aq mem false 1 v20 v4 (fun v21 => fieldAddr 5 v2 (fun v22 => aq mem false 1 v22 v4 (fun v23 => cO mem .nil (.cons (fun v27 => v27 v22) (.cons (fun v28 => v28 v20) (.cons (fun v29 => v29 v18) (.cons (fun v30 => v30 v16) (.cons (fun v31 => v31 v14) (.cons (fun v32 => v32 v11) (.cons (fun v33 => v33 v9) (.cons (fun v34 => v34 v7) .nil)))))))) v4 (fun h24 => au mem false r30 (.nd v6 .lf .lf) h24 (fun v25 v26 => .val v25 v26)) (fun v35 v36 => (cx .add).f v36 (S [58, 32, 103, 111, 114, 111, 117, 116, 105, 110, 101, 32]) (fun v37 => cO mem .nil (.cons (fun v41 => v41 v22) (.cons (fun v42 => v42 v20) (.cons (fun v43 => v43 v18) (.cons (fun v44 => v44 v16) (.cons (fun v45 => v45 v14) (.cons (fun v46 => v46 v11) (.cons (fun v47 => v47 v9) .nil))))))) v35 (fun h38 => au mem false r30 (.nd v8 .lf .lf) h38 (fun v39 v40 => .val v39 v40)) (fun v48 v49 => (cx .add).f v37 v49 (fun v50 => (cx .add).f v50 (S [32]) (fun v51 => cO mem .nil (.cons (fun v55 => v55 v22) (.cons (fun v56 => v56 v20) (.cons (fun v57 => v57 v18) (.cons (fun v58 => v58 v16) .nil)))) v48 (fun h52 => au mem false r29 (.nd v15 .lf .lf) h52 (fun v53 v54 => .val v53 v54)) (fun v59 v60 => (cx .add).f v51 v60 (fun v61 => (cx .add).f v61 (S [32]) (fun v62 => cO mem .nil (.cons (fun v66 => v66 v22) (.cons (fun v67 => v67 v20) (.cons (fun v68 => v68 v18) .nil))) v59 (fun h63 => au mem false r30 (.nd v17 .lf .lf) h63 (fun v64 v65 => .val v64 v65)) (fun v69 v70 => (cx .add).f v62 v70 (fun v71 => (cx .add).f v71 (S [32, 97, 116, 32]) (fun v72 => cO mem .nil (.cons (fun v76 => v76 v22) (.cons (fun v77 => v77 v20) .nil)) v69 (fun h73 => au mem false r30 (.nd v19 .lf .lf) h73 (fun v74 v75 => .val v74 v75)) (fun v78 v79 => (cx .add).f v72 v79 (fun v80 => (cx .add).f v80 (S [32]) (fun v81 => cO mem .nil (.cons (fun v85 => v85 v22) .nil) v78 (fun h82 => au mem false r31 (.nd v21 .lf .lf) h82 (fun v83 v84 => .val v83 v84)) (fun v86 v87 => (cx .add).f v81 v87 (fun v88 => (cx .add).f v88 (S [44, 32, 102, 114, 97, 109, 101, 115, 32]) (fun v89 => cO mem .nil .nil v86 (fun h90 => au mem false r30 (.nd v23 .lf .lf) h90 (fun v91 v92 => .val v91 v92)) (fun v93 v94 => (cx .add).f v89 v94 (fun v95 => fieldAddr 6 v2 (fun v96 => aq mem false 1 v96 v93 (fun v97 => (ae .gtr 4).f v97 (.int 4 0) (fun v98 => AV.ay v98 (fun v99 => when v99 (fieldAddr 6 v2 (fun v100 => aq mem false 1 v100 v93 (fun v101 => au mem false r45 (.nd v101 .lf .lf) v93 (fun v102 v103 => (cx .add).f (S [44, 32]) v102 (fun v104 => (cx .add).f v95 v104 (fun v105 => (yq).run .lf (.n x0 x1 (S []) v105 .uu .uu .uu .uu .e) v103)))))) ((yq).run .lf (.n x0 x1 (S []) v95 .uu .uu .uu .uu .e) v93))))))))))))))))))))))))))))))))))))))))))))))) := (congrArg (fun F => bN.f F (.nd x0 .lf (.nd x1 .lf .lf)) hp) (ba Go.Proofs.YtbamejikafhenaaDoor.Tz.ac3).symm).trans (by kernel_rfl)
theorem ret21 (x0 x1 x2 x3 : AV) (hp : Hp) : aaD (.ret (.n x0 x1 x2 x3 .uu .uu .uu .uu .e) hp) = .val x2 hp := by kernel_rfl
theorem a2Y (x0 x1 x2 x3 : AV) (hp : Hp) : (yq).run .lf (.n x0 x1 x2 x3 .uu .uu .uu .uu .e) hp = .ret (.n x0 x1 x3 x3 .uu .uu .uu .uu .e) hp := by kernel_rfl
end
noncomputable section
def a8r : Sm := aC cr6 [1, 0, 1, 1]
def fin6 : aa → aa := eN cr6
theorem t6 (x0 x1 : AV) (hp : Hp) : r6.f (.nd x0 .lf (.nd x1 .lf .lf)) hp = fin6 (cF mem (aY mem) x0 3 3 hp (fun v0 v1 => cF mem (aY mem) x1 7 7 v1 (fun v2 v3 => aq mem true 3 v0 v3 (fun v4 => aq mem true 7 v2 v3 (fun v5 => au mem false r14 (.nd v4 .lf (.nd v5 .lf .lf)) v3 (fun v6 v7 => (ae .neq 3).f v6 (.int 3 0) (fun v8 => AV.ay v8 (fun v9 => when v9 (.ret (.n x0 x1 (S []) v6 v0 v2 .uu .uu .e) v7) ((a8r).run .lf (.n x0 x1 (S []) (.int 3 0) v0 v2 .uu .uu .e) v7))))))))) := (congrArg (fun F => bN.f F (.nd x0 .lf (.nd x1 .lf .lf)) hp) (ba cr6).symm).trans (by kernel_rfl)
theorem ret6 (x0 x1 x2 x3 x4 x5 : AV) (hp : Hp) : fin6 (.ret (.n x0 x1 x2 x3 x4 x5 .uu .uu .e) hp) = .val (.bB (.nd x2 .lf (.nd x3 .lf .lf)) 2) hp := by kernel_rfl
theorem a4Z (x0 x1 x2 x3 x4 x5 : AV) (hp : Hp) : (a8r).run .lf (.n x0 x1 x2 x3 x4 x5 .uu .uu .e) hp = aq mem true 3 x4 hp (fun v10 => aq mem true 7 x5 hp (fun v11 => au mem false r21 (.nd v10 .lf (.nd v11 .lf .lf)) hp (fun v12 v13 => .ret (.n x0 x1 v12 (.int 3 0) x4 x5 .uu .uu .e) v13))) := by kernel_rfl
end
attribute [local irreducible] mem
set_option linter.unusedSimpArgs false
attribute [local congr] di aJ bM dh dm bj de cm aW cf cn c9 bh bK bH aX eJ cg cb cj bm bk aK aO eG bG cq bL bO bD bF ck c7 bl bJ dd bE bI bC
theorem cA (z : Int) : (bo z).length ≤ 65 := by
  unfold bo
  split
  · rw [List.length_cons]; have := oG (base := 10) 64 (-z).toNat; omega
  · have := oG (base := 10) 64 z.toNat; omega
theorem nk (n : Nat) : (cG n).length ≤ 7 := by
  by_cases h : n < 35
  · have : ∀ n, n < 35 → (cG n).length ≤ 7 := by decide
    exact this n h
  · have := (a0l (n := n)).2 (by omega)
    rw [this]; decide
theorem fO (n : Nat) : (b9 n).length ≤ 8 := by
  by_cases h : n < 9
  · have : ∀ n, n < 9 → (b9 n).length ≤ 8 := by decide
    exact this n h
  · unfold b9
    rw [List.getD_eq_getElem?_getD, List.getElem?_eq_none (show 9 ≤ n by omega)]
    decide
theorem c19 {z : Int} {hp : Hp} {k : AV → Hp → aa} (h : -9223372036854775808 ≤ z ∧ z < 9223372036854775808) : au mem false r19 (.nd (I z) .lf .lf) hp k = k (S (bo z)) hp := eO (.nd (fD _) .lf) (aV _).goes (mV (a6d h)) hp k
theorem c30 {z : Int} {hp : Hp} {k : AV → Hp → aa} (h : -9223372036854775808 ≤ z ∧ z < 9223372036854775808) : au mem false r30 (.nd (I z) .lf .lf) hp k = k (S (bo z)) hp := eO (.nd (fD _) .lf) (aV _).goes (mV (ahA h)) hp k
theorem c29 {l : List UInt8} {hp : Hp} {k : AV → Hp → aa} (h : l.length < 1000000) : au mem false r29 (.nd (S l) .lf .lf) hp k = k (S (j5 l)) hp := eO (.nd (aV _) .lf) (aV _).goes (mV (ahQ h)) hp k
theorem c17 {l : List UInt8} {hp : Hp} {k : AV → Hp → aa} (h : l.length ≤ 400) : au mem false r17 (.nd (S l) .lf .lf) hp k = k (.bB (.nd (S (j5 l)) .lf (.nd (I 0) .lf .lf)) 2) hp := eO (.nd (aV _) .lf) (gB (oA _) (gG _)) (aiP h) hp k
section
variable {m : cD} {x : Mk} (h : bz m) (hn : m.n ≤ 40) (hnc : ∀ i, i < m.n → m.nc i ≤ 300) (hx : x.Ok) (hp : Hp) (k : AV → Hp → aa)
include h hn hnc hx
theorem c13 : au mem false r13 (.nd m.av .lf (.nd x.av .lf .lf)) hp k = k (I ((if Fits m x then 0 else 8 : Nat) : Int)) hp := j6 (cD.iS h (dA (.nd Mk.still .lf))) (fD _).goes (ahL h hn hnc hx) hp k
theorem c14 : au mem false r14 (.nd m.av .lf (.nd x.av .lf .lf)) hp k = k (I ((if Fits m x then 0 else 8 : Nat) : Int)) hp := j6 (cD.iS h (dA (.nd Mk.still .lf))) (fD _).goes (aiI h hn hnc hx) hp k
end
def aQ (m : cD) (x : Mk) : List UInt8 := bo x.step ++ [58, 32, 103, 111, 114, 111, 117, 116, 105, 110, 101, 32] ++ bo x.g ++ [32] ++ j5 (m.nm x.f.toNat) ++ [32] ++ bo x.f ++ [32, 97, 116, 32] ++ bo x.at' ++ [32] ++ cG x.op ++ [44, 32, 102, 114, 97, 109, 101, 115, 32] ++ bo x.fr ++ (if 0 < x.out then [44, 32] ++ b9 x.out else [])
set_option maxHeartbeats 2000000 in
theorem ai7 {m : cD} {x : Mk} (h : bz m) (hn : m.n ≤ 40) (hx : x.Ok) (hF : Fits m x) : db (r21.f (.nd m.av .lf (.nd x.av .lf .lf)) .empty) = some (S (aQ m x)) := by
  obtain ⟨⟨a1, a2⟩, ⟨a3, a4⟩, ⟨a5, a6⟩, ⟨a7, a8⟩, a9, ⟨b1, b2⟩, b3⟩ := hx
  unfold Fits at hF
  have l1 := cA x.step
  have l2 := cA x.g
  have l3 := cA x.f
  have l4 := cA x.at'
  have l5 := cA x.fr
  have l6 := nk x.op
  have l7 := fO x.out
  have l8 := kQ (m.nm x.f.toNat)
  simp +contextual (disch := (first | omega | (simp only [Y2] <;> omega) | ((repeat' (first | exact ai | apply ab | apply aj | refine ah (by omega) ?_ ?_)) <;> (simp (disch := (first | omega | (simp only [Y5] <;> omega))) only [Y5, Y8, Nat.reduceAdd, Nat.reduceEqDiff, reduceIte, *])) | exact True.intro | rfl)) only [Y1, cD.av, Mk.av, Mk.l, t21, bx, br, Nat.reduceAdd, Nat.reduceEqDiff, reduceIte, Nat.reduceLeDiff, Nat.reduceSub, apply_ite aaD, apply_ite db, ret21, a2Y, h.fs.len, h.fs.idx, a6k h.fr, yT h.fr, ua, a0G, h.sx, h.vH, h.a1M, c29, c30, c31, c45]
  unfold aQ
  by_cases h0 : 0 < x.out
  · rw [if_pos h0, if_pos h0]
  · rw [if_neg h0, if_neg h0, List.append_nil]
theorem mQ {m : cD} {x : Mk} (hF : Fits m x) : (aQ m x).length ≤ 1000 := by
  unfold Fits at hF
  have l1 := cA x.step
  have l2 := cA x.g
  have l3 := cA x.f
  have l4 := cA x.at'
  have l5 := cA x.fr
  have l6 := nk x.op
  have l7 := fO x.out
  have l8 := kQ (m.nm x.f.toNat)
  unfold aQ
  split <;> simp only [List.length_append, List.length_cons, List.length_nil] <;> omega
section
variable {m : cD} {x : Mk} (h : bz m) (hn : m.n ≤ 40) (hx : x.Ok) (hF : Fits m x) (hp : Hp) (k : AV → Hp → aa)
include h hn hx hF
theorem c21 : au mem false r21 (.nd m.av .lf (.nd x.av .lf .lf)) hp k = k (S (aQ m x)) hp := j6 (cD.iS h (dA (.nd Mk.still .lf))) (aV _).goes (ai7 h hn hx hF) hp k
end
theorem r6_ok {m : cD} {x : Mk} (h : bz m) (hn : m.n ≤ 40) (hnc : ∀ i, i < m.n → m.nc i ≤ 300) (hx : x.Ok) : db (r6.f (.nd m.av .lf (.nd x.av .lf .lf)) .empty) = some (if Fits m x then .bB (.nd (S (aQ m x)) .lf (.nd (I 0) .lf .lf)) 2 else .bB (.nd (S []) .lf (.nd (I 8) .lf .lf)) 2) := by
  have e14 := c14 h hn hnc hx
  by_cases hF : Fits m x
  · have e21 := c21 h hn hx hF
    rw [if_pos hF]
    simp only [cD.av, Mk.av, Mk.l, if_pos hF] at e14 e21 ⊢
    simp +contextual (disch := (first | omega | (simp only [Y2] <;> omega) | ((repeat' (first | exact ai | apply ab | apply aj | refine ah (by omega) ?_ ?_)) <;> (simp (disch := (first | omega | (simp only [Y5] <;> omega))) only [Y5, Y8, Nat.reduceAdd, Nat.reduceEqDiff, reduceIte, *])) | exact True.intro | rfl)) only [Y1, t6, bx, br, Nat.reduceAdd, Nat.reduceEqDiff, reduceIte, Nat.reduceLeDiff, Nat.reduceSub, apply_ite fin6, apply_ite db, ret6, e14, e21, a4Z]
  · rw [if_neg hF]
    simp only [cD.av, Mk.av, Mk.l, if_neg hF] at e14 ⊢
    simp +contextual (disch := (first | omega | (simp only [Y2] <;> omega) | ((repeat' (first | exact ai | apply ab | apply aj | refine ah (by omega) ?_ ?_)) <;> (simp (disch := (first | omega | (simp only [Y5] <;> omega))) only [Y5, Y8, Nat.reduceAdd, Nat.reduceEqDiff, reduceIte, *])) | exact True.intro | rfl)) only [Y1, t6, bx, br, Nat.reduceAdd, Nat.reduceEqDiff, reduceIte, Nat.reduceLeDiff, Nat.reduceSub, apply_ite fin6, apply_ite db, ret6, e14]
    rfl
theorem a9D (n : Nat) : lK n ≤ 1000 := by unfold lK; split <;> decide
set_option maxHeartbeats 2000000 in
theorem agK {m : cD} {x : Mk} (h : bz m) (hn : m.n ≤ 40) (hnc : ∀ i, i < m.n → m.nc i ≤ 300) (hx : x.Ok) : db (r5.f (.nd m.av .lf (.nd x.av .lf .lf)) .empty) = some (if Fits m x then .bB (.nd (S (aQ m x)) .lf (.nd (I 0) .lf .lf)) 2 else .bB (.nd (S []) .lf (.nd (I 8) .lf .lf)) 2) := by
  have e13 := c13 h hn hnc hx
  obtain ⟨⟨a1, a2⟩, ⟨a3, a4⟩, ⟨a5, a6⟩, ⟨a7, a8⟩, a9, ⟨b1, b2⟩, b3⟩ := hx
  by_cases hF : Fits m x
  · rw [if_pos hF]
    simp only [cD.av, Mk.av, Mk.l, if_pos hF] at e13 ⊢
    have hF2 := hF
    unfold Fits at hF2
    have l1 := cA x.step
    have l2 := cA x.g
    have l3 := cA x.f
    have l4 := cA x.at'
    have l5 := cA x.fr
    have l6 := nk x.op
    have l7 := fO x.out
    have l8 := kQ (m.nm x.f.toNat)
    have e1 : oP x.op = 0 := by unfold oP; rw [if_pos (by omega)]
    have e2 := a9D x.out
    simp +contextual (disch := (first | omega | (simp only [Y2] <;> omega) | ((repeat' (first | exact ai | apply ab | apply aj | refine ah (by omega) ?_ ?_)) <;> (simp (disch := (first | omega | (simp only [Y5] <;> omega))) only [Y5, Y8, Nat.reduceAdd, Nat.reduceEqDiff, reduceIte, *])) | exact True.intro | rfl)) only [Y1, t5, bx, br, Nat.reduceAdd, Nat.reduceEqDiff, reduceIte, Nat.reduceLeDiff, Nat.reduceSub, apply_ite fin5, apply_ite db, ret5, e13, h.fs.len, h.fs.idx, a6k h.fr, yT h.fr, ua, c17, c18, c19, c20, e1, a5J, a3i, yE, vo, rz]
    unfold aQ
    by_cases h0 : x.out = 0
    · rw [if_pos h0, if_neg (by omega), List.append_nil]
    · have e3 : lK x.out = 0 := by unfold lK; rw [if_pos (by omega)]
      rw [if_neg h0, if_pos (by rw [e3]; rfl), if_pos (by omega), List.append_assoc _ [44, 32]]
  · rw [if_neg hF]
    simp only [cD.av, Mk.av, Mk.l, if_neg hF] at e13 ⊢
    simp +contextual (disch := (first | omega | (simp only [Y2] <;> omega) | ((repeat' (first | exact ai | apply ab | apply aj | refine ah (by omega) ?_ ?_)) <;> (simp (disch := (first | omega | (simp only [Y5] <;> omega))) only [Y5, Y8, Nat.reduceAdd, Nat.reduceEqDiff, reduceIte, *])) | exact True.intro | rfl)) only [Y1, t5, bx, br, Nat.reduceAdd, Nat.reduceEqDiff, reduceIte, Nat.reduceLeDiff, Nat.reduceSub, apply_ite fin5, apply_ite db, ret5, e13]
    rfl
section
variable {m : cD} {x : Mk} (h : bz m) (hn : m.n ≤ 40) (hnc : ∀ i, i < m.n → m.nc i ≤ 300) (hx : x.Ok) (hp : Hp) (k : AV → Hp → aa)
include h hn hnc hx
theorem c5 : au mem false r5 (.nd m.av .lf (.nd x.av .lf .lf)) hp k = k (if Fits m x then .bB (.nd (S (aQ m x)) .lf (.nd (I 0) .lf .lf)) 2 else .bB (.nd (S []) .lf (.nd (I 8) .lf .lf)) 2) hp := j6 (cD.iS h (dA (.nd Mk.still .lf))) (by split <;> exact gB (oA _) (gG _)) (agK h hn hnc hx) hp k
theorem c6 : au mem false r6 (.nd m.av .lf (.nd x.av .lf .lf)) hp k = k (if Fits m x then .bB (.nd (S (aQ m x)) .lf (.nd (I 0) .lf .lf)) 2 else .bB (.nd (S []) .lf (.nd (I 8) .lf .lf)) 2) hp := j6 (cD.iS h (dA (.nd Mk.still .lf))) (by split <;> exact gB (oA _) (gG _)) (r6_ok h hn hnc hx) hp k
end
end Go.Proofs.YtbamejikafhenaaDoor.Tz
namespace Go.Proofs.YtbamejikafhenaaDoor.Tz
noncomputable section
def kE : Sm := gT Go.Proofs.YtbamejikafhenaaDoor.Tz.wF [1, 0, 1, 0]
def a4o : Fr → Hp → aa := iA Go.Proofs.YtbamejikafhenaaDoor.Tz.wF [1, 0, 1, 0]
def pt : aa → aa := gX Go.Proofs.YtbamejikafhenaaDoor.Tz.wF [1, 0, 1, 0]
def uH : Sm := aC Go.Proofs.YtbamejikafhenaaDoor.Tz.wF [1, 0, 1, 0, 0, 1, 0]
def a6Q : Sm := aC Go.Proofs.YtbamejikafhenaaDoor.Tz.wF [1, 0, 1]
def nR : Sm := aC Go.Proofs.YtbamejikafhenaaDoor.Tz.wF [1, 0, 1, 0, 0, 1, 1, 0, 0, 1, 1]
def sy : Sm := aC Go.Proofs.YtbamejikafhenaaDoor.Tz.wF [1, 0, 1, 0, 0, 1, 1, 0]
def agW : aa → aa := eN Go.Proofs.YtbamejikafhenaaDoor.Tz.wF
theorem t53 (x0 x1 : AV) (hp : Hp) : r53.f (.nd x0 .lf (.nd x1 .lf .lf)) hp = agW (cz mem 1 x0 hp (fun v0 => ar (Nat.ble v0 9223372036854775807) (a4o (.n x0 x1 (.int 3 0) (.int 3 0) (.int 3 v0) .uu .uu .uu .e) hp))) := (congrArg (fun F => bN.f F (.nd x0 .lf (.nd x1 .lf .lf)) hp) (ba Go.Proofs.YtbamejikafhenaaDoor.Tz.wF).symm).trans (by kernel_rfl)
theorem ret53 (x0 x1 x2 x3 x4 : AV) (hp : Hp) : agW (.ret (.n x0 x1 x2 x3 x4 .uu .uu .uu .e) hp) = .val x2 hp := by kernel_rfl
theorem pb (x0 x1 x2 x3 x4 : AV) (hp : Hp) : (kE).run .lf (.n x0 x1 x2 x3 x4 .uu .uu .uu .e) hp = (ae .lss 3).f x3 x4 (fun v1 => AV.ay v1 (fun v2 => when v2 ((uH).run .lf (.n x0 x1 x2 x3 x4 .uu .uu .uu .e) hp) (.exit 0 (.n x0 x1 x2 x3 x4 .uu .uu .uu .e) hp))) := by kernel_rfl
theorem a3T (fr : Fr) (hp : Hp) : a4o fr hp = pt (aD kE 1000000 fr hp) := rfl
theorem a5o (fr : Fr) (hp : Hp) : pt (.exit 0 fr hp) = (a6Q).run .lf fr hp := by kernel_rfl
theorem a2c (fr : Fr) (hp : Hp) : pt (.ret fr hp) = .ret fr hp := by kernel_rfl
theorem pc (x0 x1 x2 x3 x4 : AV) (hp : Hp) : (uH).run .lf (.n x0 x1 x2 x3 x4 .uu .uu .uu .e) hp = indexAddr 1 x0 x3 (fun v3 => aq mem false 1 v3 hp (fun v4 => (cx .eql).f x1 v4 (fun v5 => AV.ay v5 (fun v6 => when v6 (.ret (.n x0 x1 x3 x3 x4 .uu .uu .uu .e) hp) ((nR).run .lf (.n x0 x1 x2 x3 x4 .uu .uu .uu .e) hp))))) := by kernel_rfl
theorem qk (x0 x1 x2 x3 x4 : AV) (hp : Hp) : (a6Q).run .lf (.n x0 x1 x2 x3 x4 .uu .uu .uu .e) hp = .ret (.n x0 x1 (.int 3 18446744073709551615) x3 x4 .uu .uu .uu .e) hp := by kernel_rfl
theorem kU (x0 x1 x2 x3 x4 : AV) (hp : Hp) : (nR).run .lf (.n x0 x1 x2 x3 x4 .uu .uu .uu .e) hp = (sy).run .lf (.n x0 x1 x2 x3 x4 .uu .uu .uu .e) hp := by kernel_rfl
theorem nT (x0 x1 x2 x3 x4 : AV) (hp : Hp) : (sy).run .lf (.n x0 x1 x2 x3 x4 .uu .uu .uu .e) hp = (ae .add 3).f x3 (.int 3 1) (fun v7 => .ok (.n x0 x1 x2 v7 x4 .uu .uu .uu .e) hp) := by kernel_rfl
end
noncomputable section
def pK : Sm := aC Go.Proofs.YtbamejikafhenaaDoor.Tz.aaY [1, 1, 1, 0, 1]
def a7t : aa → aa := eN Go.Proofs.YtbamejikafhenaaDoor.Tz.aaY
theorem t25 (x0 : AV) (hp : Hp) : r25.f (.nd x0 .lf .lf) hp = a7t (au mem false r42 .lf hp (fun v0 v1 => cF mem (aY mem) (AV.agg (aw [S [], S [], S [], S [], S [], S [], S [], S [], S [], S [], S [], S [], S [], S [], S [], S [], S [], S [], S [], S [], S [], S [], S [], S [], S [], S [], S [], S [], S [], S [], S [], S [], S [], S [], S []]) 35) 1 35 v1 (fun v2 v3 => aH mem 35 v2 v0 v3 (fun v4 => AV.pX v2 (fun v5 v6 => Hp.use mem v4 v5 (Nat.add v6 35) (fun _ _ _ _ _ => eS 1 (.ms v5 v6 35 1) (.some (.int 3 1)) .none .none (fun v12 => au mem false r53 (.nd v12 .lf (.nd x0 .lf .lf)) v4 (fun v13 v14 => (ae .lss 3).f v13 (.int 3 0) (fun v15 => AV.ay v15 (fun v16 => when v16 (.ret (.n x0 (.int 4 0) (.int 3 6) v13 .uu .uu .uu .uu .e) v14) ((pK).run .lf (.n x0 (.int 4 0) (.int 3 0) v13 .uu .uu .uu .uu .e) v14))))))) (fun v17 v18 v19 v20 => ar (Nat.beq v20 1) (ar (Nat.beq (Nat.mod v18 1) 0) (ar (Nat.ble 35 v19) (eS 1 (.vs v17 (Nat.div v18 1) 35 1) (.some (.int 3 1)) .none .none (fun v21 => au mem false r53 (.nd v21 .lf (.nd x0 .lf .lf)) v4 (fun v22 v23 => (ae .lss 3).f v22 (.int 3 0) (fun v24 => AV.ay v24 (fun v25 => when v25 (.ret (.n x0 (.int 4 0) (.int 3 6) v22 .uu .uu .uu .uu .e) v23) ((pK).run .lf (.n x0 (.int 4 0) (.int 3 0) v22 .uu .uu .uu .uu .e) v23))))))))))))) := (congrArg (fun F => bN.f F (.nd x0 .lf .lf) hp) (ba Go.Proofs.YtbamejikafhenaaDoor.Tz.aaY).symm).trans (by kernel_rfl)
theorem ret25 (x0 x1 x2 x3 : AV) (hp : Hp) : a7t (.ret (.n x0 x1 x2 x3 .uu .uu .uu .uu .e) hp) = .val (.bB (.nd x1 .lf (.nd x2 .lf .lf)) 2) hp := by kernel_rfl
theorem a0C (x0 x1 x2 x3 : AV) (hp : Hp) : (pK).run .lf (.n x0 x1 x2 x3 .uu .uu .uu .uu .e) hp = (ae .add 3).f x3 (.int 3 1) (fun v26 => AV.bV v26 (fun v27 v28 => bu 4 (rF (md v27) (hf v27) 256 v28) (fun v29 => .ret (.n x0 v29 (.int 3 0) x3 .uu .uu .uu .uu .e) hp))) := by kernel_rfl
end
end Go.Proofs.YtbamejikafhenaaDoor.Tz
