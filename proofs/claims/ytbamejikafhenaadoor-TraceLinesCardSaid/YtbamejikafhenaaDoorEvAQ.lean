import Derived.Test.YtbamejikafhenaaDoorEvAN
import Derived.Test.YtbamejikafhenaaDoorEvAO
import Derived.Test.YtbamejikafhenaaDoorEvAP
open Go Go.Proofs.YtbamejikafhenaaDoor.Ev
namespace Go.Proofs.YtbamejikafhenaaDoor.Tz
noncomputable section
def a8f : Sm := aC Go.Proofs.YtbamejikafhenaaDoor.Tz.nr [1, 0, 1]
def gf : Sm := gT Go.Proofs.YtbamejikafhenaaDoor.Tz.nr [1, 1, 0, 1, 0]
def zU : Fr → Hp → aa := iA Go.Proofs.YtbamejikafhenaaDoor.Tz.nr [1, 1, 0, 1, 0]
def j4 : aa → aa := gX Go.Proofs.YtbamejikafhenaaDoor.Tz.nr [1, 1, 0, 1, 0]
def rX : Sm := aC Go.Proofs.YtbamejikafhenaaDoor.Tz.nr [1, 1, 0, 1, 0, 0, 0, 1]
def xA : Sm := aC Go.Proofs.YtbamejikafhenaaDoor.Tz.nr [1, 1, 0, 1]
def pv : Sm := aC Go.Proofs.YtbamejikafhenaaDoor.Tz.nr [1, 1, 0, 1, 0, 0, 1, 0, 0, 1]
def fS : Sm := gT Go.Proofs.YtbamejikafhenaaDoor.Tz.nr [1, 1, 1, 1, 0, 1, 0]
def ud : Fr → Hp → aa := iA Go.Proofs.YtbamejikafhenaaDoor.Tz.nr [1, 1, 1, 1, 0, 1, 0]
def jF : aa → aa := gX Go.Proofs.YtbamejikafhenaaDoor.Tz.nr [1, 1, 1, 1, 0, 1, 0]
def rW : Sm := aC Go.Proofs.YtbamejikafhenaaDoor.Tz.nr [1, 1, 0, 1, 0, 0, 1, 0]
def oe : Sm := aC Go.Proofs.YtbamejikafhenaaDoor.Tz.nr [1, 1, 1, 1, 0, 1, 0, 0, 0, 1]
def yr : Sm := aC Go.Proofs.YtbamejikafhenaaDoor.Tz.nr [1, 1, 1, 1, 0, 1]
def kI : Sm := aC Go.Proofs.YtbamejikafhenaaDoor.Tz.nr [1, 1, 1, 1, 0, 1, 0, 0, 1, 0, 0, 1, 0, 1]
def pk : Sm := aC Go.Proofs.YtbamejikafhenaaDoor.Tz.nr [1, 1, 1, 1, 0, 1, 0, 0, 1, 0]
def agw : aa → aa := eN Go.Proofs.YtbamejikafhenaaDoor.Tz.nr
theorem t66 (x0 x1 x2 : AV) (hp : Hp) : r66.f (.nd x0 .lf (.nd x1 .lf (.nd x2 .lf .lf))) hp = agw (cz mem 0 x0 hp (fun v0 => ar (Nat.ble v0 9223372036854775807) ((ae .eql 3).f (.int 3 v0) (.int 3 0) (fun v1 => gd v1 false hp (fun k2 => k2 x0 hp) (fun v3 v4 => gd v1 false v4 (fun k5 => AV.ea v3 (fun v6 v7 => fP (.int 3 0) v7 (fun v8 => bu 4 (Nat.mod (Nat.div v6 (Nat.pow 256 v8)) 256) (fun v9 => k5 v9 v4)))) (fun v10 v11 => gd v1 false v11 (fun k12 => (ae .eql 4).f v10 (.int 4 48) (fun v13 => k12 v13 v11)) (fun v14 v15 => gd v1 false v15 (fun k16 => k16 v14 v15) (fun v17 v18 => gd v17 true v18 (fun k19 => k19 x0 v18) (fun v20 v21 => gd v17 true v21 (fun k22 => cz mem 0 v20 v21 (fun v23 => ar (Nat.ble v23 9223372036854775807) (k22 (.int 3 v23) v21))) (fun v24 v25 => gd v17 true v25 (fun k26 => (ae .gtr 3).f v24 (.int 3 1) (fun v27 => k26 v27 v25)) (fun v28 v29 => gd v1 false v29 (fun k30 => aI v17 (fun v31 => v31 v28) (fun v32 => v32 (.bool false)) (fun v33 => k30 v33 v29)) (fun v34 v35 => aI v1 (fun v36 => v36 (.bool true)) (fun v37 => v37 v34) (fun v38 => AV.ay v38 (fun v39 => when v39 (.ret (.n x0 x1 x2 (.int 7 0) (.int 3 12) .uu .uu .uu (.n .uu .uu .uu .uu .uu .uu .uu .uu .e)) v35) ((a8f).run .lf (.n x0 x1 x2 (.int 7 0) (.int 3 0) .uu .uu .uu (.n .uu .uu .uu .uu .uu .uu .uu .uu .e)) v35))))))))))))))) := (congrArg (fun F => bN.f F (.nd x0 .lf (.nd x1 .lf (.nd x2 .lf .lf))) hp) (ba Go.Proofs.YtbamejikafhenaaDoor.Tz.nr).symm).trans (by kernel_rfl)
theorem a7n (x0 x1 x2 x3 x4 x5 x6 x7 x8 : AV) (hp : Hp) : agw (.ret (.n x0 x1 x2 x3 x4 x5 x6 x7 (.n x8 .uu .uu .uu .uu .uu .uu .uu .e)) hp) = .val (.bB (.nd x3 .lf (.nd x4 .lf .lf)) 2) hp := by kernel_rfl
theorem kA (x0 x1 x2 x3 x4 x5 x6 x7 x8 : AV) (hp : Hp) : (a8f).run .lf (.n x0 x1 x2 x3 x4 x5 x6 x7 (.n x8 .uu .uu .uu .uu .uu .uu .uu .e)) hp = zU (.n x0 x1 x2 x3 x4 (.int 3 0) x6 x7 (.n x8 .uu .uu .uu .uu .uu .uu .uu .e)) hp := by kernel_rfl
theorem nC (x0 x1 x2 x3 x4 x5 x6 x7 x8 : AV) (hp : Hp) : (gf).run .lf (.n x0 x1 x2 x3 x4 x5 x6 x7 (.n x8 .uu .uu .uu .uu .uu .uu .uu .e)) hp = cz mem 0 x0 hp (fun v40 => ar (Nat.ble v40 9223372036854775807) ((ae .lss 3).f x5 (.int 3 v40) (fun v41 => AV.ay v41 (fun v42 => when v42 ((rX).run .lf (.n x0 x1 x2 x3 x4 x5 x6 x7 (.n x8 .uu .uu .uu .uu .uu .uu .uu .e)) hp) (.exit 0 (.n x0 x1 x2 x3 x4 x5 x6 x7 (.n x8 .uu .uu .uu .uu .uu .uu .uu .e)) hp))))) := by kernel_rfl
theorem a1O (fr : Fr) (hp : Hp) : zU fr hp = j4 (aD gf 1000000 fr hp) := rfl
theorem a2X (fr : Fr) (hp : Hp) : j4 (.exit 0 fr hp) = (xA).run .lf fr hp := by kernel_rfl
theorem zb (fr : Fr) (hp : Hp) : j4 (.ret fr hp) = .ret fr hp := by kernel_rfl
theorem gM (x0 x1 x2 x3 x4 x5 x6 x7 x8 : AV) (hp : Hp) : (rX).run .lf (.n x0 x1 x2 x3 x4 x5 x6 x7 (.n x8 .uu .uu .uu .uu .uu .uu .uu .e)) hp = AV.ea x0 (fun v43 v44 => fP x5 v44 (fun v45 => bu 4 (Nat.mod (Nat.div v43 (Nat.pow 256 v45)) 256) (fun v46 => AV.bV x1 (fun v47 v48 => bu 3 (rF (md v47) (hf v47) 18446744073709551616 v48) (fun v49 => au mem false r79 (.nd v46 .lf (.nd v49 .lf .lf)) hp (fun v50 v51 => (ae .lss 3).f v50 (.int 3 0) (fun v52 => AV.ay v52 (fun v53 => when v53 (.ret (.n x0 x1 x2 (.int 7 0) (.int 3 12) x5 x6 x7 (.n x8 .uu .uu .uu .uu .uu .uu .uu .e)) v51) ((pv).run .lf (.n x0 x1 x2 x3 x4 x5 x6 x7 (.n x8 .uu .uu .uu .uu .uu .uu .uu .e)) v51))))))))) := by kernel_rfl
theorem jv (x0 x1 x2 x3 x4 x5 x6 x7 x8 : AV) (hp : Hp) : (xA).run .lf (.n x0 x1 x2 x3 x4 x5 x6 x7 (.n x8 .uu .uu .uu .uu .uu .uu .uu .e)) hp = ud (.n x0 x1 x2 x3 x4 x5 (.int 3 0) (.int 7 0) (.n x8 .uu .uu .uu .uu .uu .uu .uu .e)) hp := by kernel_rfl
theorem fE (x0 x1 x2 x3 x4 x5 x6 x7 x8 : AV) (hp : Hp) : (pv).run .lf (.n x0 x1 x2 x3 x4 x5 x6 x7 (.n x8 .uu .uu .uu .uu .uu .uu .uu .e)) hp = (rW).run .lf (.n x0 x1 x2 x3 x4 x5 x6 x7 (.n x8 .uu .uu .uu .uu .uu .uu .uu .e)) hp := by kernel_rfl
theorem kD (x0 x1 x2 x3 x4 x5 x6 x7 x8 : AV) (hp : Hp) : (fS).run .lf (.n x0 x1 x2 x3 x4 x5 x6 x7 (.n x8 .uu .uu .uu .uu .uu .uu .uu .e)) hp = cz mem 0 x0 hp (fun v54 => ar (Nat.ble v54 9223372036854775807) ((ae .lss 3).f x6 (.int 3 v54) (fun v55 => AV.ay v55 (fun v56 => when v56 ((oe).run .lf (.n x0 x1 x2 x3 x4 x5 x6 x7 (.n x8 .uu .uu .uu .uu .uu .uu .uu .e)) hp) (.exit 4 (.n x0 x1 x2 x3 x4 x5 x6 x7 (.n x8 .uu .uu .uu .uu .uu .uu .uu .e)) hp))))) := by kernel_rfl
theorem xU (fr : Fr) (hp : Hp) : ud fr hp = jF (aD fS 1000000 fr hp) := rfl
theorem yX (fr : Fr) (hp : Hp) : jF (.exit 4 fr hp) = (yr).run .lf fr hp := by kernel_rfl
theorem vg (fr : Fr) (hp : Hp) : jF (.ret fr hp) = .ret fr hp := by kernel_rfl
theorem gL (x0 x1 x2 x3 x4 x5 x6 x7 x8 : AV) (hp : Hp) : (rW).run .lf (.n x0 x1 x2 x3 x4 x5 x6 x7 (.n x8 .uu .uu .uu .uu .uu .uu .uu .e)) hp = (ae .add 3).f x5 (.int 3 1) (fun v57 => .ok (.n x0 x1 x2 x3 x4 v57 x6 x7 (.n x8 .uu .uu .uu .uu .uu .uu .uu .e)) hp) := by kernel_rfl
theorem fF (x0 x1 x2 x3 x4 x5 x6 x7 x8 : AV) (hp : Hp) : (oe).run .lf (.n x0 x1 x2 x3 x4 x5 x6 x7 (.n x8 .uu .uu .uu .uu .uu .uu .uu .e)) hp = AV.ea x0 (fun v58 v59 => fP x6 v59 (fun v60 => bu 4 (Nat.mod (Nat.div v58 (Nat.pow 256 v60)) 256) (fun v61 => AV.bV x1 (fun v62 v63 => bu 3 (rF (md v62) (hf v62) 18446744073709551616 v63) (fun v64 => au mem false r79 (.nd v61 .lf (.nd v64 .lf .lf)) hp (fun v65 v66 => AV.bV v65 (fun v67 v68 => bu 7 (rF (md v67) (hf v67) 18446744073709551616 v68) (fun v69 => (ae .sub 7).f x2 v69 (fun v70 => (ae .quo 7).f v70 x1 (fun v71 => (ae .gtr 7).f x7 v71 (fun v72 => AV.ay v72 (fun v73 => when v73 (.ret (.n x0 x1 x2 (.int 7 0) (.int 3 16) x5 x6 x7 (.n v69 .uu .uu .uu .uu .uu .uu .uu .e)) v66) ((kI).run .lf (.n x0 x1 x2 x3 x4 x5 x6 x7 (.n v69 .uu .uu .uu .uu .uu .uu .uu .e)) v66))))))))))))) := by kernel_rfl
theorem gH (x0 x1 x2 x3 x4 x5 x6 x7 x8 : AV) (hp : Hp) : (yr).run .lf (.n x0 x1 x2 x3 x4 x5 x6 x7 (.n x8 .uu .uu .uu .uu .uu .uu .uu .e)) hp = .ret (.n x0 x1 x2 x7 (.int 3 0) x5 x6 x7 (.n x8 .uu .uu .uu .uu .uu .uu .uu .e)) hp := by kernel_rfl
theorem dZ (x0 x1 x2 x3 x4 x5 x6 x7 x8 : AV) (hp : Hp) : (kI).run .lf (.n x0 x1 x2 x3 x4 x5 x6 x7 (.n x8 .uu .uu .uu .uu .uu .uu .uu .e)) hp = (ae .mul 7).f x7 x1 (fun v74 => (ae .add 7).f v74 x8 (fun v75 => (pk).run .lf (.n x0 x1 x2 x3 x4 x5 x6 v75 (.n x8 .uu .uu .uu .uu .uu .uu .uu .e)) hp)) := by kernel_rfl
theorem fH (x0 x1 x2 x3 x4 x5 x6 x7 x8 : AV) (hp : Hp) : (pk).run .lf (.n x0 x1 x2 x3 x4 x5 x6 x7 (.n x8 .uu .uu .uu .uu .uu .uu .uu .e)) hp = (ae .add 3).f x6 (.int 3 1) (fun v76 => .ok (.n x0 x1 x2 x3 x4 x5 v76 x7 (.n x8 .uu .uu .uu .uu .uu .uu .uu .e)) hp) := by kernel_rfl
end
end Go.Proofs.YtbamejikafhenaaDoor.Tz
namespace Go.Proofs.YtbamejikafhenaaDoor.Tz
attribute [local irreducible] mem
set_option linter.unusedSimpArgs false
attribute [local congr] di aJ bM dh dm bj de cm aW cf cn c9 bh bK bH aX eJ cg cb cj bm bk aK aO eG bG cq bL bO bD bF ck c7 bl bJ dd bE bI bC
theorem c73' {c : Nat} {hp : Hp} {k : AV → Hp → aa} (h : c < 256) : au mem false r73 (.nd (S (List.take 10 [48, 49, 50, 51, 52, 53, 54, 55, 56, 57, 97, 98, 99, 100, 101, 102])) .lf (.nd (B8 c) .lf .lf)) hp k = k (I (if bT c then (c : Int) - 48 else -1)) hp := c73 h
theorem ajg {s : List UInt8} {i most n : Nat} {far : Bool} {x3 x4 x9 : AV} {hp : Hp} (hs : s.length ≤ 2000) (hi : i < s.length) (hm : most ≤ 9223372036854775808) (hm2 : 100 ≤ most) (hn : n ≤ most) :
    ∃ hp', (kq).run .lf (.n (S s) (U 10) (U most) x3 x4 (I i) (I s.length) (.bool far) (.n (U n) x9 .uu .uu .uu .uu .uu .uu .e)) hp =
      if bT (s.getD i 0).toNat = false ∨ i = 1 ∧ (s.getD 0 0).toNat = 48 then .ret (.n (S s) (U 10) (U most) (U 0) (I 12) (I i) (I s.length) (.bool far) (.n (U n) (I (if bT (s.getD i 0).toNat then ((s.getD i 0).toNat : Int) - 48 else -1)) .uu .uu .uu .uu .uu .uu .e)) hp'
      else if far = true ∨ most < n * 10 + ((s.getD i 0).toNat - 48) then .ok (.n (S s) (U 10) (U most) x3 x4 (I (i + 1 : Nat)) (I s.length) (.bool true) (.n (U n) (I (if bT (s.getD i 0).toNat then ((s.getD i 0).toNat : Int) - 48 else -1)) .uu .uu .uu .uu .uu .uu .e)) hp'
      else .ok (.n (S s) (U 10) (U most) x3 x4 (I (i + 1 : Nat)) (I s.length) (.bool false) (.n (U (n * 10 + ((s.getD i 0).toNat - 48))) (I (if bT (s.getD i 0).toNat then ((s.getD i 0).toNat : Int) - 48 else -1)) .uu .uu .uu .uu .uu .uu .e)) hp' := by
  refine ⟨hp.u5 7, ?_⟩
  have hc := (s.getD i 0).toNat_lt
  cases hd : bT (s.getD i 0).toNat with
  | false =>
    rw [if_pos (.inl rfl)]
    simp +contextual (disch := (first | omega | (simp only [Y2] <;> omega) | ((repeat' (first | exact ai | apply ab | apply aj | refine ah (by omega) ?_ ?_)) <;> (simp (disch := (first | omega | (simp only [Y5] <;> omega))) only [Y5, Y8, Nat.reduceAdd, Nat.reduceEqDiff, reduceIte, *])) | exact True.intro | rfl)) only [Y1, Y6, Y10, kl, Nat.reduceAdd, Nat.reduceEqDiff, reduceIte, Nat.reduceLeDiff, Nat.reduceSub, c73', hd]
    rw [if_pos (by omega)]
    rfl
  | true =>
    have hd2 := hd
    unfold bT at hd2
    rw [Bool.and_eq_true, bA, bA] at hd2
    have e0 : ((Int.toNat 0)) = 0 := rfl
    cases far with
    | true =>
      simp +contextual (disch := (first | omega | (simp only [Y2] <;> omega) | ((repeat' (first | exact ai | apply ab | apply aj | refine ah (by omega) ?_ ?_)) <;> (simp (disch := (first | omega | (simp only [Y5] <;> omega))) only [Y5, Y8, Nat.reduceAdd, Nat.reduceEqDiff, reduceIte, *])) | exact True.intro | rfl)) only [Y1, Y6, Y10, kl, Nat.reduceAdd, Nat.reduceEqDiff, reduceIte, Nat.reduceLeDiff, Nat.reduceSub, c73', hd]
      rw [if_pos (by omega), if_neg (by omega)]
      by_cases h1 : i = 1
      · subst h1
        rw [if_pos (c := (((1 : Nat) : Int) = 1)) rfl, e0]
        by_cases h0 : (s.getD 0 0).toNat = 48
        · rw [if_pos h0, if_pos (.inr ⟨rfl, h0⟩)]
          rfl
        · rw [if_neg h0, if_neg (by simp only [h0, and_false, or_false]; exact id), if_pos (.inl trivial)]
          rfl
      · rw [if_neg (by omega), if_neg (by simp only [h1, false_and, or_false]; exact id), if_pos (.inl trivial)]
        rfl
    | false =>
      simp +contextual (disch := (first | omega | (simp only [Y2] <;> omega) | ((repeat' (first | exact ai | apply ab | apply aj | refine ah (by omega) ?_ ?_)) <;> (simp (disch := (first | omega | (simp only [Y5] <;> omega))) only [Y5, Y8, Nat.reduceAdd, Nat.reduceEqDiff, reduceIte, *])) | exact True.intro | rfl)) only [Y1, Y6, Y10, kl, Nat.reduceAdd, Nat.reduceEqDiff, reduceIte, Nat.reduceLeDiff, Nat.reduceSub, c73', hd]
      rw [if_pos (by omega), if_neg (by omega)]
      have ec : (((s.getD i 0).toNat : Int) - 48).toNat = (s.getD i 0).toNat - 48 := by omega
      have eo : (most - ((s.getD i 0).toNat - 48)) / 10 < n ↔ most < n * 10 + ((s.getD i 0).toNat - 48) := by omega
      rw [ec]
      simp only [false_or, eo]
      by_cases h1 : i = 1
      · subst h1
        rw [if_pos (c := (((1 : Nat) : Int) = 1)) rfl, e0]
        by_cases h0 : (s.getD 0 0).toNat = 48
        · rw [if_pos h0, if_pos ⟨rfl, h0⟩]
          rfl
        · rw [if_neg h0, if_neg (c := (1 = 1 ∧ (s.getD 0 0).toNat = 48)) (fun h => h0 h.2)]
          split <;> rfl
      · rw [if_neg (c := (i : Int) = 1) (by omega), if_neg (c := (i = 1 ∧ (s.getD 0 0).toNat = 48)) (fun h => h1 h.1)]
        split <;> rfl
def dc (l : List UInt8) : Nat := l.foldl (fun n c => n * 10 + (c.toNat - 48)) 0
def okD (l : List UInt8) : Prop := l ≠ [] ∧ (∀ i, i < l.length → bT (l.getD i 0).toNat = true) ∧ (2 ≤ l.length → (l.getD 0 0).toNat ≠ 48)
open Classical in
noncomputable def bq (l : List UInt8) (most : Nat) : Nat × Nat := if okD l then if dc l ≤ most then (dc l, 0) else (0, 16) else (0, 12)
theorem mU (l : List UInt8) (c : UInt8) : dc (l ++ [c]) = dc l * 10 + (c.toNat - 48) := by
  unfold dc; rw [List.foldl_append]; rfl
theorem a0q {l : List UInt8} {i : Nat} (h : i < l.length) : l.take (i + 1) = l.take i ++ [l.getD i 0] := by
  rw [List.take_add_one, List.getD_eq_getElem?_getD, List.getElem?_eq_getElem h]; rfl
theorem a5O {s : List UInt8} {most : Nat} (hs : s.length ≤ 2000) (hm : most ≤ 9223372036854775808) (hm2 : 100 ≤ most) : ∀ (f i n : Nat) (far : Bool) (x9 : AV) (hp : Hp) (fuel : Nat), s.length - i = f → i ≤ s.length → f < fuel → n ≤ most →
    (∀ j, j < i → bT (s.getD j 0).toNat = true) → (2 ≤ i → (s.getD 0 0).toNat ≠ 48) → (far = true → most < dc (s.take i)) → (far = false → n = dc (s.take i)) →
    ∃ x5 x7 y0 y1 hp', mb (aD kq fuel (.n (S s) (U 10) (U most) (U 0) (I 0) (I i) (I s.length) (.bool far) (.n (U n) x9 .uu .uu .uu .uu .uu .uu .e)) hp) =
      .ret (.n (S s) (U 10) (U most) (U (bq s most).1) (I (bq s most).2) x5 (I s.length) x7 (.n y0 y1 .uu .uu .uu .uu .uu .uu .e)) hp'
  | f, i, n, far, x9, hp, 0, _, _, h, _, _, _, _, _ => absurd h (Nat.not_lt_zero _)
  | f, i, n, far, x9, hp, fuel + 1, hf, hi, hfu, hn, hdig, h0, hfar, hnf => by
    by_cases hil : i < s.length
    · obtain ⟨hp1, hb⟩ := ajg (x3 := U 0) (x4 := I 0) (x9 := x9) (far := far) (n := n) (hp := hp) hs hil hm hm2 hn
      by_cases hbad : bT (s.getD i 0).toNat = false ∨ i = 1 ∧ (s.getD 0 0).toNat = 48
      · rw [if_pos hbad] at hb
        rw [eQ hb, yL]
        have e : bq s most = (0, 12) := by
          unfold bq
          rw [if_neg]
          rintro ⟨_, w2, w3⟩
          rcases hbad with h | ⟨h, h'⟩
          · have := w2 i hil; rw [h] at this; cases this
          · exact w3 (by omega) h'
        rw [e]
        exact ⟨_, _, _, _, _, rfl⟩
      · rw [if_neg hbad] at hb
        have hd : bT (s.getD i 0).toNat = true := by
          cases h : bT (s.getD i 0).toNat with
          | true => rfl
          | false => exact absurd (.inl h) hbad
        have hdig2 : ∀ j, j < i + 1 → bT (s.getD j 0).toNat = true := fun j hj => by
          by_cases h : j = i
          · rw [h]; exact hd
          · exact hdig j (by omega)
        have h02 : 2 ≤ i + 1 → (s.getD 0 0).toNat ≠ 48 := fun h h' => by
          by_cases h1 : i = 1
          · exact hbad (.inr ⟨h1, h'⟩)
          · exact h0 (by omega) h'
        have ev : dc (s.take (i + 1)) = dc (s.take i) * 10 + ((s.getD i 0).toNat - 48) := by rw [a0q hil, mU]
        by_cases hov : far = true ∨ most < n * 10 + ((s.getD i 0).toNat - 48)
        · rw [if_pos hov] at hb
          rw [cY hb]
          exact a5O hs hm hm2 (f - 1) (i + 1) n true _ hp1 fuel (by omega) (by omega) (by omega) hn hdig2 h02 (fun _ => by
            rw [ev]
            rcases hov with h | h
            · have := hfar h; omega
            · cases far with
              | true => have := hfar rfl; omega
              | false => have := hnf rfl; omega) (fun h => by cases h)
        · rw [if_neg hov] at hb
          rw [cY hb]
          have hff : far = false := by
            cases far with
            | true => exact absurd (.inl rfl) hov
            | false => rfl
          exact a5O hs hm hm2 (f - 1) (i + 1) _ false _ hp1 fuel (by omega) (by omega) (by omega) (by
            have : ¬ most < n * 10 + ((s.getD i 0).toNat - 48) := fun h => hov (.inr h)
            omega) hdig2 h02 (fun h => by cases h) (fun _ => by rw [ev, hnf hff])
    · have hi2 : i = s.length := by omega
      subst hi2
      have hb : (kq).run .lf (.n (S s) (U 10) (U most) (U 0) (I 0) (I s.length) (I s.length) (.bool far) (.n (U n) x9 .uu .uu .uu .uu .uu .uu .e)) hp = .exit 0 (.n (S s) (U 10) (U most) (U 0) (I 0) (I s.length) (I s.length) (.bool far) (.n (U n) x9 .uu .uu .uu .uu .uu .uu .e)) hp := by
        simp +contextual (disch := (first | omega | (simp only [Y2] <;> omega) | ((repeat' (first | exact ai | apply ab | apply aj | refine ah (by omega) ?_ ?_)) <;> (simp (disch := (first | omega | (simp only [Y5] <;> omega))) only [Y5, Y8, Nat.reduceAdd, Nat.reduceEqDiff, reduceIte, *])) | exact True.intro | rfl)) only [Y1, Y6, kl, Nat.reduceAdd, Nat.reduceEqDiff, reduceIte, Nat.reduceLeDiff, Nat.reduceSub, Int.lt_irrefl]
      rw [cE hb, a4h]
      rw [List.take_length] at hfar hnf
      by_cases he : s = []
      · have e : bq s most = (0, 12) := by
          unfold bq; rw [if_neg (fun h => h.1 he)]
        subst he
        rw [e]
        simp +contextual (disch := (first | omega | (simp only [Y2] <;> omega) | ((repeat' (first | exact ai | apply ab | apply aj | refine ah (by omega) ?_ ?_)) <;> (simp (disch := (first | omega | (simp only [Y5] <;> omega))) only [Y5, Y8, Nat.reduceAdd, Nat.reduceEqDiff, reduceIte, *])) | exact True.intro | rfl)) only [Y1, Y6, Y10, Nat.reduceAdd, Nat.reduceEqDiff, reduceIte, Nat.reduceLeDiff, Nat.reduceSub]
        exact ⟨_, _, _, _, _, rfl⟩
      · have hok : okD s := ⟨he, hdig, h0⟩
        cases far with
        | true =>
          have := hfar rfl
          have e : bq s most = (0, 16) := by
            unfold bq; rw [if_pos hok, if_neg (by omega)]
          rw [e]
          simp +contextual (disch := (first | omega | (simp only [Y2] <;> omega) | ((repeat' (first | exact ai | apply ab | apply aj | refine ah (by omega) ?_ ?_)) <;> (simp (disch := (first | omega | (simp only [Y5] <;> omega))) only [Y5, Y8, Nat.reduceAdd, Nat.reduceEqDiff, reduceIte, *])) | exact True.intro | rfl)) only [Y1, Y6, Y10, Nat.reduceAdd, Nat.reduceEqDiff, reduceIte, Nat.reduceLeDiff, Nat.reduceSub, he]
          exact ⟨_, _, _, _, _, rfl⟩
        | false =>
          have := hnf rfl
          have e : bq s most = (n, 0) := by
            unfold bq; rw [if_pos hok, if_pos (by omega), this]
          rw [e]
          simp +contextual (disch := (first | omega | (simp only [Y2] <;> omega) | ((repeat' (first | exact ai | apply ab | apply aj | refine ah (by omega) ?_ ?_)) <;> (simp (disch := (first | omega | (simp only [Y5] <;> omega))) only [Y5, Y8, Nat.reduceAdd, Nat.reduceEqDiff, reduceIte, *])) | exact True.intro | rfl)) only [Y1, Y6, Y10, Nat.reduceAdd, Nat.reduceEqDiff, reduceIte, Nat.reduceLeDiff, Nat.reduceSub, he]
          exact ⟨_, _, _, _, _, rfl⟩
theorem aj5 {s : List UInt8} {most : Nat} (hs : s.length ≤ 2000) (hm : most ≤ 9223372036854775808) (hm2 : 100 ≤ most) : db (r62.f (.nd (S s) .lf (.nd (U 10) .lf (.nd (U most) .lf .lf))) .empty) = some (.bB (.nd (U (bq s most).1) .lf (.nd (I (bq s most).2) .lf .lf)) 2) := by
  obtain ⟨x5, x7, y0, y1, hp', h⟩ := a5O hs hm hm2 s.length 0 0 false .uu .empty 1000000 (by omega) (by omega) (by omega) (by omega) (fun j hj => absurd hj (Nat.not_lt_zero _)) (fun h => absurd h (by omega)) (fun h => by cases h) (fun _ => rfl)
  simp +contextual (disch := (first | omega | (simp only [Y2] <;> omega) | ((repeat' (first | exact ai | apply ab | apply aj | refine ah (by omega) ?_ ?_)) <;> (simp (disch := (first | omega | (simp only [Y5] <;> omega))) only [Y5, Y8, Nat.reduceAdd, Nat.reduceEqDiff, reduceIte, *])) | exact True.intro | rfl)) only [Y1, Y6, t62, a2b, Nat.reduceAdd, Nat.reduceEqDiff, reduceIte, Nat.reduceLeDiff, Nat.reduceSub]
  have h' : mb (aD kq 1000000 (.n (S s) (U 10) (U most) (U 0) (I 0) (I 0) (I s.length) (.bool false) (.n (U 0) .uu .uu .uu .uu .uu .uu .uu .e)) .empty) = _ := h
  rw [h', ret62]
  rfl
end Go.Proofs.YtbamejikafhenaaDoor.Tz
namespace Go.Proofs.YtbamejikafhenaaDoor.Tz
noncomputable section
def a7p : Sm := aC Go.Proofs.YtbamejikafhenaaDoor.Tz.a6o [1, 0, 1]
def zW : Sm := aC Go.Proofs.YtbamejikafhenaaDoor.Tz.a6o [1, 1, 1, 0, 1]
def oF : Sm := aC Go.Proofs.YtbamejikafhenaaDoor.Tz.a6o [1, 1, 1, 1, 1, 0, 1]
def a3H : aa → aa := eN Go.Proofs.YtbamejikafhenaaDoor.Tz.a6o
theorem t48 (x0 : AV) (hp : Hp) : r48.f (.nd x0 .lf .lf) hp = a3H (cz mem 0 x0 hp (fun v0 => ar (Nat.ble v0 9223372036854775807) ((ae .gtr 3).f (.int 3 v0) (.int 3 2000) (fun v1 => AV.ay v1 (fun v2 => when v2 (.ret (.n x0 (.int 3 0) (.int 3 4) .uu .uu .uu .uu .uu .e) hp) ((a7p).run .lf (.n x0 (.int 3 0) (.int 3 0) .uu .uu .uu .uu .uu .e) hp)))))) := (congrArg (fun F => bN.f F (.nd x0 .lf .lf) hp) (ba Go.Proofs.YtbamejikafhenaaDoor.Tz.a6o).symm).trans (by kernel_rfl)
theorem aby (x0 x1 x2 x3 x4 x5 : AV) (hp : Hp) : a3H (.ret (.n x0 x1 x2 x3 x4 x5 .uu .uu .e) hp) = .val (.bB (.nd x1 .lf (.nd x2 .lf .lf)) 2) hp := by kernel_rfl
theorem wz (x0 x1 x2 x3 x4 x5 : AV) (hp : Hp) : (a7p).run .lf (.n x0 x1 x2 x3 x4 x5 .uu .uu .e) hp = au mem false r49 (.nd x0 .lf (.nd (S [45]) .lf .lf)) hp (fun v3 v4 => bg 0 v3 (fun v5 => bg 1 v3 (fun v6 => AV.ay v6 (fun v7 => when (dv v7) (au mem false r62 (.nd x0 .lf (.nd (.int 7 10) .lf (.nd (.int 7 9223372036854775807) .lf .lf))) v4 (fun v8 v9 => bg 0 v8 (fun v10 => bg 1 v8 (fun v11 => AV.bV v10 (fun v12 v13 => bu 3 (rF (md v12) (hf v12) 18446744073709551616 v13) (fun v14 => .ret (.n x0 v14 v11 v5 x4 x5 .uu .uu .e) v9)))))) ((zW).run .lf (.n x0 x1 x2 v5 x4 x5 .uu .uu .e) v4))))) := by kernel_rfl
theorem rP (x0 x1 x2 x3 x4 x5 : AV) (hp : Hp) : (zW).run .lf (.n x0 x1 x2 x3 x4 x5 .uu .uu .e) hp = au mem false r62 (.nd x3 .lf (.nd (.int 7 10) .lf (.nd (.int 7 9223372036854775808) .lf .lf))) hp (fun v15 v16 => bg 0 v15 (fun v17 => bg 1 v15 (fun v18 => (ae .eql 3).f v18 (.int 3 0) (fun v19 => gd v19 true v16 (fun k20 => k20 v17 v16) (fun v21 v22 => gd v19 true v22 (fun k23 => (ae .eql 7).f v21 (.int 7 0) (fun v24 => k23 v24 v22)) (fun v25 v26 => aI v19 (fun v27 => v27 v25) (fun v28 => v28 (.bool false)) (fun v29 => AV.ay v29 (fun v30 => when v30 ((oF).run .lf (.n x0 x1 x2 x3 v17 (.int 3 12) .uu .uu .e) v26) ((oF).run .lf (.n x0 x1 x2 x3 v17 v18 .uu .uu .e) v26))))))))) := by kernel_rfl
theorem pz (x0 x1 x2 x3 x4 x5 : AV) (hp : Hp) : (oF).run .lf (.n x0 x1 x2 x3 x4 x5 .uu .uu .e) hp = AV.bV x4 (fun v31 v32 => bu v31 (Nat.mod (Nat.sub (md v31) v32) (md v31)) (fun v33 => AV.bV v33 (fun v34 v35 => bu 3 (rF (md v34) (hf v34) 18446744073709551616 v35) (fun v36 => .ret (.n x0 v36 x5 x3 x4 x5 .uu .uu .e) hp)))) := by kernel_rfl
end
noncomputable section
def a6U : Sm := aC Go.Proofs.YtbamejikafhenaaDoor.Tz.a1u [1, 0, 1]
def uh : Sm := aC Go.Proofs.YtbamejikafhenaaDoor.Tz.a1u [1, 1, 0, 1, 0, 0, 1]
def a4j : Sm := aC Go.Proofs.YtbamejikafhenaaDoor.Tz.a1u [1, 1, 0, 1]
def qb : Sm := aC Go.Proofs.YtbamejikafhenaaDoor.Tz.a1u [1, 1, 0, 1, 0, 1, 1, 0, 1]
def xE : Sm := aC Go.Proofs.YtbamejikafhenaaDoor.Tz.a1u [1, 1, 1, 1, 0, 1]
def a7m : aa → aa := eN Go.Proofs.YtbamejikafhenaaDoor.Tz.a1u
theorem t54 (x0 : AV) (hp : Hp) : r54.f (.nd x0 .lf .lf) hp = a7m (cz mem 0 x0 hp (fun v0 => ar (Nat.ble v0 9223372036854775807) ((ae .gtr 3).f (.int 3 v0) (.int 3 2000) (fun v1 => AV.ay v1 (fun v2 => when v2 (.ret (.n x0 (.int 3 0) (.int 3 4) .uu .uu .uu .uu .uu .e) hp) ((a6U).run .lf (.n x0 (.int 3 0) (.int 3 0) .uu .uu .uu .uu .uu .e) hp)))))) := (congrArg (fun F => bN.f F (.nd x0 .lf .lf) hp) (ba Go.Proofs.YtbamejikafhenaaDoor.Tz.a1u).symm).trans (by kernel_rfl)
theorem agX (x0 x1 x2 x3 x4 : AV) (hp : Hp) : a7m (.ret (.n x0 x1 x2 x3 x4 .uu .uu .uu .e) hp) = .val (.bB (.nd x1 .lf (.nd x2 .lf .lf)) 2) hp := by kernel_rfl
theorem a6e (x0 x1 x2 x3 x4 : AV) (hp : Hp) : (a6U).run .lf (.n x0 x1 x2 x3 x4 .uu .uu .uu .e) hp = cz mem 0 x0 hp (fun v3 => ar (Nat.ble v3 9223372036854775807) ((ae .gtr 3).f (.int 3 v3) (.int 3 0) (fun v4 => gd v4 true hp (fun k5 => k5 x0 hp) (fun v6 v7 => gd v4 true v7 (fun k8 => AV.ea v6 (fun v9 v10 => fP (.int 3 0) v10 (fun v11 => bu 4 (Nat.mod (Nat.div v9 (Nat.pow 256 v11)) 256) (fun v12 => k8 v12 v7)))) (fun v13 v14 => gd v4 true v14 (fun k15 => (ae .eql 4).f v13 (.int 4 45) (fun v16 => k15 v16 v14)) (fun v17 v18 => aI v4 (fun v19 => v19 v17) (fun v20 => v20 (.bool false)) (fun v21 => AV.ay v21 (fun v22 => when v22 ((cx .eql).f x0 (S [45, 48]) (fun v23 => AV.ay v23 (fun v24 => when v24 (.ret (.n x0 (.int 3 0) (.int 3 12) x3 x4 .uu .uu .uu .e) v18) ((uh).run .lf (.n x0 x1 x2 x3 x4 .uu .uu .uu .e) v18)))) ((a4j).run .lf (.n x0 x1 x2 x3 x4 .uu .uu .uu .e) v18))))))))) := by kernel_rfl
theorem xC (x0 x1 x2 x3 x4 : AV) (hp : Hp) : (uh).run .lf (.n x0 x1 x2 x3 x4 .uu .uu .uu .e) hp = dj x0 (.some (.int 3 1)) .none (fun v25 => au mem false r66 (.nd v25 .lf (.nd (.int 7 10) .lf (.nd (.int 7 9223372036854775808) .lf .lf))) hp (fun v26 v27 => bg 0 v26 (fun v28 => bg 1 v26 (fun v29 => (ae .neq 3).f v29 (.int 3 0) (fun v30 => AV.ay v30 (fun v31 => when v31 (.ret (.n x0 (.int 3 0) v29 v28 x4 .uu .uu .uu .e) v27) ((qb).run .lf (.n x0 x1 x2 v28 x4 .uu .uu .uu .e) v27))))))) := by kernel_rfl
theorem a2L (x0 x1 x2 x3 x4 : AV) (hp : Hp) : (a4j).run .lf (.n x0 x1 x2 x3 x4 .uu .uu .uu .e) hp = au mem false r66 (.nd x0 .lf (.nd (.int 7 10) .lf (.nd (.int 7 9223372036854775807) .lf .lf))) hp (fun v32 v33 => bg 0 v32 (fun v34 => bg 1 v32 (fun v35 => (ae .neq 3).f v35 (.int 3 0) (fun v36 => AV.ay v36 (fun v37 => when v37 (.ret (.n x0 (.int 3 0) v35 x3 v34 .uu .uu .uu .e) v33) ((xE).run .lf (.n x0 x1 x2 x3 v34 .uu .uu .uu .e) v33)))))) := by kernel_rfl
theorem tc (x0 x1 x2 x3 x4 : AV) (hp : Hp) : (qb).run .lf (.n x0 x1 x2 x3 x4 .uu .uu .uu .e) hp = (ae .sub 7).f x3 (.int 7 1) (fun v38 => AV.bV v38 (fun v39 v40 => bu 3 (rF (md v39) (hf v39) 18446744073709551616 v40) (fun v41 => AV.bV v41 (fun v42 v43 => bu v42 (Nat.mod (Nat.sub (md v42) v43) (md v42)) (fun v44 => (ae .sub 3).f v44 (.int 3 1) (fun v45 => .ret (.n x0 v45 (.int 3 0) x3 x4 .uu .uu .uu .e) hp)))))) := by kernel_rfl
theorem yU (x0 x1 x2 x3 x4 : AV) (hp : Hp) : (xE).run .lf (.n x0 x1 x2 x3 x4 .uu .uu .uu .e) hp = AV.bV x4 (fun v46 v47 => bu 3 (rF (md v46) (hf v46) 18446744073709551616 v47) (fun v48 => .ret (.n x0 v48 (.int 3 0) x3 x4 .uu .uu .uu .e) hp)) := by kernel_rfl
end
attribute [local irreducible] mem
set_option linter.unusedSimpArgs false
attribute [local congr] di aJ bM dh dm bj de cm aW cf cn c9 bh bK bH aX eJ cg cb cj bm bk aK aO eG bG cq bL bO bD bF ck c7 bl bJ dd bE bI bC
theorem a7o {s : List UInt8} {most : Nat} (hs : s.length ≤ 2000) : ∀ (f i : Nat) (x6 x7 x8 : AV) (hp : Hp) (fuel : Nat), s.length - i = f → i ≤ s.length → f < fuel → (∀ j, j < i → bT (s.getD j 0).toNat = true) →
    (∃ hp', j4 (aD gf fuel (.n (S s) (U 10) (U most) (U 0) (I 0) (I i) x6 x7 (.n x8 .uu .uu .uu .uu .uu .uu .uu .e)) hp) = (xA).run .lf (.n (S s) (U 10) (U most) (U 0) (I 0) (I s.length) x6 x7 (.n x8 .uu .uu .uu .uu .uu .uu .uu .e)) hp') ∧ (∀ j, j < s.length → bT (s.getD j 0).toNat = true) ∨
    (∃ x5 hp', j4 (aD gf fuel (.n (S s) (U 10) (U most) (U 0) (I 0) (I i) x6 x7 (.n x8 .uu .uu .uu .uu .uu .uu .uu .e)) hp) = .ret (.n (S s) (U 10) (U most) (U 0) (I 12) x5 x6 x7 (.n x8 .uu .uu .uu .uu .uu .uu .uu .e)) hp') ∧ ∃ j, j < s.length ∧ bT (s.getD j 0).toNat = false
  | f, i, x6, x7, x8, hp, 0, _, _, h, _ => absurd h (Nat.not_lt_zero _)
  | f, i, x6, x7, x8, hp, fuel + 1, hf, hi, hfu, hdig => by
    by_cases hil : i < s.length
    · have hc := (s.getD i 0).toNat_lt
      cases hd : bT (s.getD i 0).toNat with
      | false =>
        refine .inr ⟨⟨I i, hp, ?_⟩, i, hil, hd⟩
        have hb : (gf).run .lf (.n (S s) (U 10) (U most) (U 0) (I 0) (I i) x6 x7 (.n x8 .uu .uu .uu .uu .uu .uu .uu .e)) hp = .ret (.n (S s) (U 10) (U most) (U 0) (I 12) (I i) x6 x7 (.n x8 .uu .uu .uu .uu .uu .uu .uu .e)) hp := by
          simp +contextual (disch := (first | omega | (simp only [Y2] <;> omega) | ((repeat' (first | exact ai | apply ab | apply aj | refine ah (by omega) ?_ ?_)) <;> (simp (disch := (first | omega | (simp only [Y5] <;> omega))) only [Y5, Y8, Nat.reduceAdd, Nat.reduceEqDiff, reduceIte, *])) | exact True.intro | rfl)) only [Y1, Y6, nC, kA, gM, jv, fE, gL, fF, gH, dZ, fH, Nat.reduceAdd, Nat.reduceEqDiff, reduceIte, Nat.reduceLeDiff, Nat.reduceSub, c79, hd]
          rw [if_pos (by omega), if_pos (by decide)]
        rw [eQ hb, zb]
      | true =>
        have hd2 := hd
        unfold bT at hd2
        rw [Bool.and_eq_true, bA, bA] at hd2
        have hb : (gf).run .lf (.n (S s) (U 10) (U most) (U 0) (I 0) (I i) x6 x7 (.n x8 .uu .uu .uu .uu .uu .uu .uu .e)) hp = .ok (.n (S s) (U 10) (U most) (U 0) (I 0) (I (i + 1 : Nat)) x6 x7 (.n x8 .uu .uu .uu .uu .uu .uu .uu .e)) hp := by
          simp +contextual (disch := (first | omega | (simp only [Y2] <;> omega) | ((repeat' (first | exact ai | apply ab | apply aj | refine ah (by omega) ?_ ?_)) <;> (simp (disch := (first | omega | (simp only [Y5] <;> omega))) only [Y5, Y8, Nat.reduceAdd, Nat.reduceEqDiff, reduceIte, *])) | exact True.intro | rfl)) only [Y1, Y6, nC, kA, gM, jv, fE, gL, fF, gH, dZ, fH, Nat.reduceAdd, Nat.reduceEqDiff, reduceIte, Nat.reduceLeDiff, Nat.reduceSub, c79, hd]
          rw [if_pos (by omega), if_neg (by omega)]
          rfl
        rw [cY hb]
        exact a7o hs (f - 1) (i + 1) x6 x7 x8 hp fuel (by omega) (by omega) (by omega) fun j hj => by
          by_cases h : j = i
          · rw [h]; exact hd
          · exact hdig j (by omega)
    · have hi2 : i = s.length := by omega
      subst hi2
      have hb : (gf).run .lf (.n (S s) (U 10) (U most) (U 0) (I 0) (I s.length) x6 x7 (.n x8 .uu .uu .uu .uu .uu .uu .uu .e)) hp = .exit 0 (.n (S s) (U 10) (U most) (U 0) (I 0) (I s.length) x6 x7 (.n x8 .uu .uu .uu .uu .uu .uu .uu .e)) hp := by
        simp +contextual (disch := (first | omega | (simp only [Y2] <;> omega) | ((repeat' (first | exact ai | apply ab | apply aj | refine ah (by omega) ?_ ?_)) <;> (simp (disch := (first | omega | (simp only [Y5] <;> omega))) only [Y5, Y8, Nat.reduceAdd, Nat.reduceEqDiff, reduceIte, *])) | exact True.intro | rfl)) only [Y1, Y6, nC, Nat.reduceAdd, Nat.reduceEqDiff, reduceIte, Nat.reduceLeDiff, Nat.reduceSub, Int.lt_irrefl]
      exact .inl ⟨⟨hp, by rw [cE hb, a2X]⟩, hdig⟩
theorem a7q {s : List UInt8} {most : Nat} (hs : s.length ≤ 2000) (hm : most ≤ 9223372036854775808) (hm2 : 100 ≤ most) (hdig : ∀ j, j < s.length → bT (s.getD j 0).toNat = true) : ∀ (f i n : Nat) (x5 x8 : AV) (hp : Hp) (fuel : Nat), s.length - i = f → i ≤ s.length → f < fuel → n ≤ most → n = dc (s.take i) →
    ∃ v e x6 x7 x8' hp', jF (aD fS fuel (.n (S s) (U 10) (U most) (U 0) (I 0) x5 (I i) (U n) (.n x8 .uu .uu .uu .uu .uu .uu .uu .e)) hp) = .ret (.n (S s) (U 10) (U most) (U v) (I ((e : Nat) : Int)) x5 x6 x7 (.n x8' .uu .uu .uu .uu .uu .uu .uu .e)) hp' ∧ (v, e) = if dc s ≤ most then (dc s, 0) else (0, 16)
  | f, i, n, x5, x8, hp, 0, _, _, h, _, _ => absurd h (Nat.not_lt_zero _)
  | f, i, n, x5, x8, hp, fuel + 1, hf, hi, hfu, hn, hv => by
    by_cases hil : i < s.length
    · have hc := (s.getD i 0).toNat_lt
      have hd := hdig i hil
      have hd2 := hd
      unfold bT at hd2
      rw [Bool.and_eq_true, bA, bA] at hd2
      have ec : (((s.getD i 0).toNat : Int) - 48).toNat = (s.getD i 0).toNat - 48 := by omega
      have ev : dc (s.take (i + 1)) = dc (s.take i) * 10 + ((s.getD i 0).toNat - 48) := by rw [a0q hil, mU]
      by_cases hov : most < n * 10 + ((s.getD i 0).toNat - 48)
      · have hb : (fS).run .lf (.n (S s) (U 10) (U most) (U 0) (I 0) x5 (I i) (U n) (.n x8 .uu .uu .uu .uu .uu .uu .uu .e)) hp = .ret (.n (S s) (U 10) (U most) (U 0) (I 16) x5 (I i) (U n) (.n (U ((s.getD i 0).toNat - 48)) .uu .uu .uu .uu .uu .uu .uu .e)) hp := by
          simp +contextual (disch := (first | omega | (simp only [Y2] <;> omega) | ((repeat' (first | exact ai | apply ab | apply aj | refine ah (by omega) ?_ ?_)) <;> (simp (disch := (first | omega | (simp only [Y5] <;> omega))) only [Y5, Y8, Nat.reduceAdd, Nat.reduceEqDiff, reduceIte, *])) | exact True.intro | rfl)) only [Y1, Y6, kD, kA, gM, jv, fE, gL, fF, gH, dZ, fH, Nat.reduceAdd, Nat.reduceEqDiff, reduceIte, Nat.reduceLeDiff, Nat.reduceSub, c79, hd, ec]
          rw [if_pos (by omega), if_pos (by omega)]
        have hle : ∀ l : List UInt8, ∀ a, a ≤ l.foldl (fun n c => n * 10 + (c.toNat - 48)) a := by
          intro l
          induction l with
          | nil => exact fun a => Nat.le_refl a
          | cons c l ih => intro a; exact Nat.le_trans (by omega) (ih (a * 10 + (c.toNat - 48)))
        have hbig : most < dc s := by
          have e1 : dc s = (s.drop (i + 1)).foldl (fun n c => n * 10 + (c.toNat - 48)) (dc (s.take (i + 1))) := by
            unfold dc; rw [← List.foldl_append, List.take_append_drop]
          have := hle (s.drop (i + 1)) (dc (s.take (i + 1)))
          rw [← e1, ev, ← hv] at this
          omega
        refine ⟨0, 16, I i, U n, U ((s.getD i 0).toNat - 48), hp, ?_, ?_⟩
        · rw [eQ hb, vg]; rfl
        · rw [if_neg (by omega)]
      · have hb : (fS).run .lf (.n (S s) (U 10) (U most) (U 0) (I 0) x5 (I i) (U n) (.n x8 .uu .uu .uu .uu .uu .uu .uu .e)) hp = .ok (.n (S s) (U 10) (U most) (U 0) (I 0) x5 (I (i + 1 : Nat)) (U (n * 10 + ((s.getD i 0).toNat - 48))) (.n (U ((s.getD i 0).toNat - 48)) .uu .uu .uu .uu .uu .uu .uu .e)) hp := by
          simp +contextual (disch := (first | omega | (simp only [Y2] <;> omega) | ((repeat' (first | exact ai | apply ab | apply aj | refine ah (by omega) ?_ ?_)) <;> (simp (disch := (first | omega | (simp only [Y5] <;> omega))) only [Y5, Y8, Nat.reduceAdd, Nat.reduceEqDiff, reduceIte, *])) | exact True.intro | rfl)) only [Y1, Y6, kD, kA, gM, jv, fE, gL, fF, gH, dZ, fH, Nat.reduceAdd, Nat.reduceEqDiff, reduceIte, Nat.reduceLeDiff, Nat.reduceSub, c79, hd, ec]
          rw [if_pos (by omega), if_neg (by omega)]
          rfl
        rw [cY hb]
        exact a7q hs hm hm2 hdig (f - 1) (i + 1) _ x5 _ hp fuel (by omega) (by omega) (by omega) (by omega) (by rw [ev, ← hv])
    · have hi2 : i = s.length := by omega
      subst hi2
      have hb : (fS).run .lf (.n (S s) (U 10) (U most) (U 0) (I 0) x5 (I s.length) (U n) (.n x8 .uu .uu .uu .uu .uu .uu .uu .e)) hp = .exit 4 (.n (S s) (U 10) (U most) (U 0) (I 0) x5 (I s.length) (U n) (.n x8 .uu .uu .uu .uu .uu .uu .uu .e)) hp := by
        simp +contextual (disch := (first | omega | (simp only [Y2] <;> omega) | ((repeat' (first | exact ai | apply ab | apply aj | refine ah (by omega) ?_ ?_)) <;> (simp (disch := (first | omega | (simp only [Y5] <;> omega))) only [Y5, Y8, Nat.reduceAdd, Nat.reduceEqDiff, reduceIte, *])) | exact True.intro | rfl)) only [Y1, Y6, kD, Nat.reduceAdd, Nat.reduceEqDiff, reduceIte, Nat.reduceLeDiff, Nat.reduceSub, Int.lt_irrefl]
      rw [List.take_length] at hv
      refine ⟨n, 0, I s.length, U n, x8, hp, ?_, ?_⟩
      · rw [cE hb, yX, gH]; rfl
      · rw [if_pos (by omega), hv]
theorem ajj {s : List UInt8} {most : Nat} (hs : s.length ≤ 2000) (hm : most ≤ 9223372036854775808) (hm2 : 100 ≤ most) : db (r66.f (.nd (S s) .lf (.nd (U 10) .lf (.nd (U most) .lf .lf))) .empty) = some (.bB (.nd (U (bq s most).1) .lf (.nd (I (bq s most).2) .lf .lf)) 2) := by
  simp +contextual (disch := (first | omega | (simp only [Y2] <;> omega) | ((repeat' (first | exact ai | apply ab | apply aj | refine ah (by omega) ?_ ?_)) <;> (simp (disch := (first | omega | (simp only [Y5] <;> omega))) only [Y5, Y8, Nat.reduceAdd, Nat.reduceEqDiff, reduceIte, *])) | exact True.intro | rfl)) only [Y1, Y6, t66, Nat.reduceAdd, Nat.reduceEqDiff, reduceIte, Nat.reduceLeDiff, Nat.reduceSub]
  have e0 : ((Int.toNat 0)) = 0 := rfl
  rw [e0]
  by_cases he : s = []
  · subst he
    rw [if_pos (c := (((([] : List UInt8).length : Nat) : Int) = 0)) rfl, a7n]
    unfold bq
    rw [if_neg (fun h => h.1 rfl)]
    rfl
  have hl : ¬ ((s.length : Int) = 0) := fun h => he (List.length_eq_zero_iff.1 (by omega))
  rw [if_neg hl]
  by_cases h2 : (s.getD 0 0).toNat = 48 ∧ 2 ≤ s.length
  · rw [if_pos h2.1, if_pos (by omega), a7n]
    unfold bq
    rw [if_neg (fun h => h.2.2 h2.2 h2.1)]
    rfl
  have e : ∀ a b : aa, (if (s.getD 0 0).toNat = 48 then if 1 < (s.length : Int) then a else b else b) = b := fun a b => by
    by_cases h : (s.getD 0 0).toNat = 48
    · rw [if_pos h, if_neg (by omega)]
    · rw [if_neg h]
  rw [e]
  simp +contextual (disch := (first | omega | (simp only [Y2] <;> omega) | ((repeat' (first | exact ai | apply ab | apply aj | refine ah (by omega) ?_ ?_)) <;> (simp (disch := (first | omega | (simp only [Y5] <;> omega))) only [Y5, Y8, Nat.reduceAdd, Nat.reduceEqDiff, reduceIte, *])) | exact True.intro | rfl)) only [Y1, Y6, kA, a1O, Nat.reduceAdd, Nat.reduceEqDiff, reduceIte, Nat.reduceLeDiff, Nat.reduceSub]
  rcases a7o (most := most) hs s.length 0 .uu .uu .uu .empty 1000000 (by omega) (by omega) (by omega) (fun j hj => absurd hj (Nat.not_lt_zero _)) with ⟨⟨hp', h⟩, hd⟩ | ⟨⟨x5, hp', h⟩, j, hj, hd⟩
  · have h' : j4 (aD gf 1000000 (.n (S s) (U 10) (U most) (U 0) (I 0) (I 0) .uu .uu (.n .uu .uu .uu .uu .uu .uu .uu .uu .e)) .empty) = _ := h
    rw [h']
    obtain ⟨v, er, x6, x7, x8, hp2, w1, w2⟩ := a7q (most := most) hs hm hm2 hd s.length 0 0 (I s.length) .uu hp' 1000000 (by omega) (by omega) (by omega) (by omega) rfl
    simp +contextual (disch := (first | omega | (simp only [Y2] <;> omega) | ((repeat' (first | exact ai | apply ab | apply aj | refine ah (by omega) ?_ ?_)) <;> (simp (disch := (first | omega | (simp only [Y5] <;> omega))) only [Y5, Y8, Nat.reduceAdd, Nat.reduceEqDiff, reduceIte, *])) | exact True.intro | rfl)) only [Y1, Y6, jv, xU, Nat.reduceAdd, Nat.reduceEqDiff, reduceIte, Nat.reduceLeDiff, Nat.reduceSub]
    have w1' : jF (aD fS 1000000 (.n (S s) (U 10) (U most) (U 0) (I 0) (I s.length) (I 0) (U 0) (.n .uu .uu .uu .uu .uu .uu .uu .uu .e)) hp') = _ := w1
    rw [w1', a7n]
    have e2 : bq s most = (v, er) := by
      unfold bq
      rw [if_pos ⟨he, hd, fun h h' => h2 ⟨h', h⟩⟩, w2]
    rw [e2]; rfl
  · have h' : j4 (aD gf 1000000 (.n (S s) (U 10) (U most) (U 0) (I 0) (I 0) .uu .uu (.n .uu .uu .uu .uu .uu .uu .uu .uu .e)) .empty) = _ := h
    rw [h', a7n]
    have e2 : bq s most = (0, 12) := by
      unfold bq
      rw [if_neg (fun h => by have := h.2.1 j hj; rw [hd] at this; cases this)]
    rw [e2]; rfl
theorem c62 {s : List UInt8} {most : Nat} {hp : Hp} {k : AV → Hp → aa} (h : s.length ≤ 2000 ∧ most ≤ 9223372036854775808 ∧ 100 ≤ most) : au mem false r62 (.nd (S s) .lf (.nd (U 10) .lf (.nd (U most) .lf .lf))) hp k = k (.bB (.nd (U (bq s most).1) .lf (.nd (I (bq s most).2) .lf .lf)) 2) hp := eO (.nd (aV _) (.nd (ll _) (.nd (ll _) .lf))) (gB (agH _) (gG _)) (aj5 h.1 h.2.1 h.2.2) hp k
theorem c66 {s : List UInt8} {most : Nat} {hp : Hp} {k : AV → Hp → aa} (h : s.length ≤ 2000 ∧ most ≤ 9223372036854775808 ∧ 100 ≤ most) : au mem false r66 (.nd (S s) .lf (.nd (U 10) .lf (.nd (U most) .lf .lf))) hp k = k (.bB (.nd (U (bq s most).1) .lf (.nd (I (bq s most).2) .lf .lf)) 2) hp := eO (.nd (aV _) (.nd (ll _) (.nd (ll _) .lf))) (gB (agH _) (gG _)) (ajj h.1 h.2.1 h.2.2) hp k
theorem jD (s : List UInt8) (most : Nat) : (bq s most).1 ≤ most ∧ (bq s most).2 ≤ 16 := by
  unfold bq
  split
  · split
    · exact ⟨by assumption, by omega⟩
    · exact ⟨Nat.zero_le _, by omega⟩
  · exact ⟨Nat.zero_le _, by omega⟩
noncomputable def qU (s : List UInt8) : Int × Nat :=
  if 2000 < s.length then (0, 4)
  else if s.getD 0 0 = 45 then (let r := bq (s.drop 1) 9223372036854775808; if r.2 = 0 then if r.1 = 0 then (0, 12) else (-(r.1 : Int), 0) else (0, r.2))
  else (let r := bq s 9223372036854775807; (r.1, r.2))
theorem zS {s : List UInt8} {most : Nat} (h : (bq s most).2 ≠ 0) : (bq s most).1 = 0 := by
  unfold bq at h ⊢
  split
  · rename_i h1
    rw [if_pos h1] at h
    split
    · rename_i h2
      rw [if_pos h2] at h
      exact absurd rfl h
    · rfl
  · rfl
theorem c49 {s p : List UInt8} {hp : Hp} {k : AV → Hp → aa} (h : s.length ≤ 4294967280 ∧ p.length ≤ 4294967280) : au mem false r49 (.nd (S s) .lf (.nd (S p) .lf .lf)) hp k = k (.bB (.nd (S (Lib.trimPrefix s p)) .lf (.nd (.bool (Lib.hasPrefix s p)) .lf .lf)) 2) hp := eO (.nd (aV _) (.nd (aV _) .lf)) (gB (oA _) (a2s _)) (mV ⟨.empty, xI (spec := fun s p => .bB (.nd (S (Lib.trimPrefix s p)) .lf (.nd (.bool (Lib.hasPrefix s p)) .lf .lf)) 2) h.1 h.2 .empty⟩) hp k
theorem adD (s : List UInt8) : Lib.hasPrefix s [45] = decide (s.getD 0 0 = 45) := by
  cases s with
  | nil => rfl
  | cons c s =>
    rw [show (c :: s).getD 0 0 = c from rfl]
    show ((45 : UInt8) == c && List.isPrefixOf [] s) = decide (c = 45)
    cases h : ((45 : UInt8) == c) with
    | true => rw [← eq_of_beq h]; rfl
    | false =>
      rw [decide_eq_false (fun e => by rw [e] at h; cases h)]; rfl
theorem ahg {s : List UInt8} (h : s.getD 0 0 = 45) : Lib.trimPrefix s [45] = s.drop 1 := by
  unfold Lib.trimPrefix
  rw [adD, decide_eq_true h]; rfl
theorem adA (s : List UInt8) : (qU s).2 ≤ 16 := by
  have h1 := (jD (s.drop 1) 9223372036854775808).2
  have h2 := (jD s 9223372036854775807).2
  unfold qU
  dsimp only
  split
  · decide
  · split
    · split
      · split
        · decide
        · exact Nat.zero_le _
      · exact h1
    · exact h2
theorem I_mod {a b : Int} (h : a % 18446744073709551616 = b % 18446744073709551616) : I a = I b := by unfold I; rw [h]
theorem a8G {l : List UInt8} (h : okD l) (h0 : dc l = 0) : l = [48] := by
  obtain ⟨h1, h2, h3⟩ := h
  cases l with
  | nil => exact absurd rfl h1
  | cons c l =>
    have hle : ∀ l : List UInt8, ∀ a, a ≤ l.foldl (fun n c => n * 10 + (c.toNat - 48)) a := by
      intro l
      induction l with
      | nil => exact fun a => Nat.le_refl a
      | cons c l ih => intro a; exact Nat.le_trans (by omega) (ih (a * 10 + (c.toNat - 48)))
    have hd := h2 0 (by simp)
    have e : (c :: l).getD 0 0 = c := rfl
    rw [e] at hd h3
    unfold bT at hd
    rw [Bool.and_eq_true, bA, bA] at hd
    have hc : c.toNat - 48 ≤ dc (c :: l) := by
      show c.toNat - 48 ≤ l.foldl (fun n c => n * 10 + (c.toNat - 48)) (0 * 10 + (c.toNat - 48))
      rw [Nat.zero_mul, Nat.zero_add]
      exact hle l _
    have hc48 : c.toNat = 48 := by omega
    cases l with
    | nil =>
      congr 1
      exact UInt8.toNat_inj.1 hc48
    | cons d l => exact absurd hc48 (h3 (by simp only [List.length_cons]; omega))
theorem a6c {s : List UInt8} {most : Nat} (h : (bq s most).2 = 0) (h0 : (bq s most).1 = 0) : s = [48] := by
  unfold bq at h h0
  by_cases hok : okD s
  · rw [if_pos hok] at h h0
    by_cases hm : dc s ≤ most
    · rw [if_pos hm] at h0; exact a8G hok h0
    · rw [if_neg hm] at h; cases h
  · rw [if_neg hok] at h; cases h
theorem ahW {s : List UInt8} (hs : s.length ≤ 1000000) : db (r48.f (.nd (S s) .lf .lf) .empty) = some (.bB (.nd (I (qU s).1) .lf (.nd (I (qU s).2) .lf .lf)) 2) := by
  have o1 := jD (s.drop 1) 9223372036854775808
  have o2 := jD s 9223372036854775807
  by_cases hl : 2000 < s.length
  · simp +contextual (disch := (first | omega | (simp only [Y2] <;> omega) | ((repeat' (first | exact ai | apply ab | apply aj | refine ah (by omega) ?_ ?_)) <;> (simp (disch := (first | omega | (simp only [Y5] <;> omega))) only [Y5, Y8, Nat.reduceAdd, Nat.reduceEqDiff, reduceIte, *])) | exact True.intro | rfl)) only [Y1, Y6, t48, Nat.reduceAdd, Nat.reduceEqDiff, reduceIte, Nat.reduceLeDiff, Nat.reduceSub, apply_ite a3H, apply_ite db, aby]
    rw [if_pos (by omega)]
    unfold qU
    rw [if_pos hl]; rfl
  by_cases h45 : s.getD 0 0 = 45
  · have hd : (s.drop 1).length = s.length - 1 := List.length_drop ..
    simp +contextual (disch := (first | omega | (simp only [Y2] <;> omega) | ((repeat' (first | exact ai | apply ab | apply aj | refine ah (by omega) ?_ ?_)) <;> (simp (disch := (first | omega | (simp only [Y5] <;> omega))) only [Y5, Y8, Nat.reduceAdd, Nat.reduceEqDiff, reduceIte, *])) | exact True.intro | rfl)) only [Y1, Y6, t48, wz, rP, pz, Nat.reduceAdd, Nat.reduceEqDiff, reduceIte, Nat.reduceLeDiff, Nat.reduceSub, c49, c62, adD, h45, ahg, apply_ite a3H, apply_ite db, aby]
    rw [if_neg (by omega)]
    unfold qU
    rw [if_neg hl, if_pos h45]
    dsimp only
    by_cases h2 : (bq (s.drop 1) 9223372036854775808).2 = 0
    · rw [if_pos (by omega), if_pos h2]
      by_cases h1 : (bq (s.drop 1) 9223372036854775808).1 = 0
      · rw [if_pos h1, if_pos h1]; rfl
      · rw [if_neg h1, if_neg h1]
        refine congrArg (fun v => some (AV.bB (Tr.nd v Tr.lf (Tr.nd (I 0) Tr.lf Tr.lf)) 2)) (I_mod ?_)
        omega
    · have h1 := zS h2
      rw [if_neg (by omega), if_neg h2, h1]
      rfl
  · simp +contextual (disch := (first | omega | (simp only [Y2] <;> omega) | ((repeat' (first | exact ai | apply ab | apply aj | refine ah (by omega) ?_ ?_)) <;> (simp (disch := (first | omega | (simp only [Y5] <;> omega))) only [Y5, Y8, Nat.reduceAdd, Nat.reduceEqDiff, reduceIte, *])) | exact True.intro | rfl)) only [Y1, Y6, t48, wz, rP, pz, Nat.reduceAdd, Nat.reduceEqDiff, reduceIte, Nat.reduceLeDiff, Nat.reduceSub, c49, c62, adD, h45, apply_ite a3H, apply_ite db, aby]
    rw [if_neg (by omega)]
    unfold qU
    rw [if_neg hl, if_neg h45]
theorem aj8 {a b : Nat} {k : AV → aa} : (ae .sub 7).f (U a) (U b) k = k (U ((a + 18446744073709551616 - b) % 18446744073709551616)) := by
  rw [a7y]
  unfold U
  rw [wS]
theorem aj2 {s : List UInt8} (hs : s.length ≤ 1000000) : db (r54.f (.nd (S s) .lf .lf) .empty) = some (.bB (.nd (I (qU s).1) .lf (.nd (I (qU s).2) .lf .lf)) 2) := by
  have o1 := jD (s.drop 1) 9223372036854775808
  have o2 := jD s 9223372036854775807
  have e0 : ((Int.toNat 1)) = 1 := rfl
  have e1 : ((Int.toNat 0)) = 0 := rfl
  by_cases hl : 2000 < s.length
  · simp +contextual (disch := (first | omega | (simp only [Y2] <;> omega) | ((repeat' (first | exact ai | apply ab | apply aj | refine ah (by omega) ?_ ?_)) <;> (simp (disch := (first | omega | (simp only [Y5] <;> omega))) only [Y5, Y8, Nat.reduceAdd, Nat.reduceEqDiff, reduceIte, *])) | exact True.intro | rfl)) only [Y1, Y6, t54, Nat.reduceAdd, Nat.reduceEqDiff, reduceIte, Nat.reduceLeDiff, Nat.reduceSub, apply_ite a7m, apply_ite db, agX]
    rw [if_pos (by omega)]
    unfold qU
    rw [if_pos hl]; rfl
  have hd : (s.drop 1).length = s.length - 1 := List.length_drop ..
  simp +contextual (disch := (first | omega | (simp only [Y2] <;> omega) | ((repeat' (first | exact ai | apply ab | apply aj | refine ah (by omega) ?_ ?_)) <;> (simp (disch := (first | omega | (simp only [Y5] <;> omega))) only [Y5, Y8, Nat.reduceAdd, Nat.reduceEqDiff, reduceIte, *])) | exact True.intro | rfl)) only [Y1, Y6, t54, a6e, xC, a2L, tc, yU, Nat.reduceAdd, Nat.reduceEqDiff, reduceIte, Nat.reduceLeDiff, Nat.reduceSub, c66, e0, e1, aj8, apply_ite a7m, apply_ite db, agX]
  rw [if_neg (by omega)]
  have key : (s.getD 0 0).toNat = 45 ↔ s.getD 0 0 = 45 := ⟨fun h => UInt8.toNat_inj.1 h, fun h => by rw [h]; rfl⟩
  unfold qU
  rw [if_neg hl]
  dsimp only
  have fin2 : ∀ v : Int × Nat, v = (((bq s 9223372036854775807).1 : Int), (bq s 9223372036854775807).2) → (if ((bq s 9223372036854775807).2 : Int) = 0 then some (AV.bB (.nd (I (bq s 9223372036854775807).1) .lf (.nd (I 0) .lf .lf)) 2) else some (.bB (.nd (I 0) .lf (.nd (I (bq s 9223372036854775807).2) .lf .lf)) 2)) = some (.bB (.nd (I v.1) .lf (.nd (I v.2) .lf .lf)) 2) := by
    rintro v rfl
    by_cases h2 : (bq s 9223372036854775807).2 = 0
    · rw [if_pos (by omega), h2]; rfl
    · rw [if_neg (by omega), zS h2]; rfl
  by_cases hl0 : 0 < s.length
  · rw [if_pos (by omega)]
    by_cases h45 : s.getD 0 0 = 45
    · rw [if_pos (key.2 h45), if_pos h45]
      by_cases h0 : s = [45, 48]
      · rw [if_pos h0]
        have e2 : bq (List.drop 1 s) 9223372036854775808 = (0, 0) := by
          subst h0
          unfold bq
          rw [if_pos ⟨by simp, fun i hi => by
            have : i = 0 := by simpa using hi
            subst this; decide, fun h => absurd h (by decide)⟩]
          rfl
        rw [e2]
        rfl
      · rw [if_neg h0]
        by_cases h2 : (bq (s.drop 1) 9223372036854775808).2 = 0
        · have h1 : (bq (s.drop 1) 9223372036854775808).1 ≠ 0 := fun h1 => by
            have := a6c h2 h1
            apply h0
            cases s with
            | nil => exact absurd hl0 (by simp)
            | cons c s =>
              have ec : c = 45 := h45
              have es : s = [48] := this
              rw [ec, es]
          rw [if_pos (by omega), if_pos h2, if_neg h1]
          have e3 : ((bq (s.drop 1) 9223372036854775808).1 + 18446744073709551616 - 1) % 18446744073709551616 = (bq (s.drop 1) 9223372036854775808).1 - 1 := by
            rw [show (bq (s.drop 1) 9223372036854775808).1 + 18446744073709551616 - 1 = ((bq (s.drop 1) 9223372036854775808).1 - 1) + 18446744073709551616 by omega, Nat.add_mod_right, Nat.mod_eq_of_lt (by omega)]
          rw [e3]
          have e4 : -(((bq (s.drop 1) 9223372036854775808).1 - 1 : Nat) : Int) - 1 = -((bq (s.drop 1) 9223372036854775808).1 : Int) := by omega
          rw [e4]
          rfl
        · rw [if_neg (by omega), if_neg h2]
    · rw [if_neg (fun h => h45 (key.1 h)), if_neg h45]
      exact fin2 _ rfl
  · have hs0 : s = [] := List.length_eq_zero_iff.1 (by omega)
    rw [if_neg (by omega), if_neg (c := s.getD 0 0 = 45) (by rw [hs0]; decide)]
    exact fin2 _ rfl
theorem c48 {s : List UInt8} {hp : Hp} {k : AV → Hp → aa} (h : s.length ≤ 1000000) : au mem false r48 (.nd (S s) .lf .lf) hp k = k (.bB (.nd (I (qU s).1) .lf (.nd (I (qU s).2) .lf .lf)) 2) hp := eO (.nd (aV _) .lf) (gB (gG _) (gG _)) (ahW h) hp k
theorem c54 {s : List UInt8} {hp : Hp} {k : AV → Hp → aa} (h : s.length ≤ 1000000) : au mem false r54 (.nd (S s) .lf .lf) hp k = k (.bB (.nd (I (qU s).1) .lf (.nd (I (qU s).2) .lf .lf)) 2) hp := eO (.nd (aV _) .lf) (gB (gG _) (gG _)) (aj2 h) hp k
end Go.Proofs.YtbamejikafhenaaDoor.Tz
namespace Go.Proofs.YtbamejikafhenaaDoor.Tz
noncomputable section
def xD : Sm := aC Go.Proofs.YtbamejikafhenaaDoor.Tz.abq [1, 1, 0, 1]
def a4x : aa → aa := eN Go.Proofs.YtbamejikafhenaaDoor.Tz.abq
theorem t22 (x0 x1 : AV) (hp : Hp) : r22.f (.nd x0 .lf (.nd x1 .lf .lf)) hp = a4x (oL x0 (fun v0 => aq mem false 1 v0 hp (fun v1 => au mem false r46 (.nd v1 .lf (.nd (.x 3 .lf 47 0 0) .lf .lf)) hp (fun v2 v3 => (ae .lss 3).f v2 (.int 3 0) (fun v4 => AV.ay v4 (fun v5 => when v5 (oL x0 (fun v6 => aq mem false 1 v6 v3 (fun v7 => cz mem 0 v7 v3 (fun v8 => ar (Nat.ble v8 9223372036854775807) ((xD).run .lf (.n x0 x1 (.int 3 0) (.bool false) (.int 3 v8) .uu .uu .uu .e) v3))))) ((xD).run .lf (.n x0 x1 (.int 3 0) (.bool false) v2 .uu .uu .uu .e) v3))))))) := (congrArg (fun F => bN.f F (.nd x0 .lf (.nd x1 .lf .lf)) hp) (ba Go.Proofs.YtbamejikafhenaaDoor.Tz.abq).symm).trans (by kernel_rfl)
theorem acg (x0 x1 x2 x3 x4 : AV) (hp : Hp) : a4x (.ret (.n x0 x1 x2 x3 x4 .uu .uu .uu .e) hp) = .val (.bB (.nd x2 .lf (.nd x3 .lf .lf)) 2) hp := by kernel_rfl
theorem oy (x0 x1 x2 x3 x4 : AV) (hp : Hp) : (xD).run .lf (.n x0 x1 x2 x3 x4 .uu .uu .uu .e) hp = oL x0 (fun v9 => aq mem false 1 v9 hp (fun v10 => dj v10 .none (.some x4) (fun v11 => au mem false r48 (.nd v11 .lf .lf) hp (fun v12 v13 => bg 0 v12 (fun v14 => bg 1 v12 (fun v15 => oL x0 (fun v16 => aq mem false 1 v16 v13 (fun v17 => dj v17 (.some x4) .none (fun v18 => au mem false r49 (.nd v18 .lf (.nd x1 .lf .lf)) v13 (fun v19 v20 => bg 0 v19 (fun v21 => bg 1 v19 (fun v22 => oL x0 (fun v23 => aH mem 1 v23 v21 v20 (fun v24 => gd v22 true v24 (fun k25 => k25 v15 v24) (fun v26 v27 => gd v22 true v27 (fun k28 => (ae .eql 3).f v26 (.int 3 0) (fun v29 => k28 v29 v27)) (fun v30 v31 => aI v22 (fun v32 => v32 v30) (fun v33 => v33 (.bool false)) (fun v34 => .ret (.n x0 x1 v14 v34 x4 .uu .uu .uu .e) v31))))))))))))))))) := by kernel_rfl
end
noncomputable section
def oz : Sm := gT Go.Proofs.YtbamejikafhenaaDoor.Tz.xy [1, 1, 0, 0]
def a2D : Fr → Hp → aa := iA Go.Proofs.YtbamejikafhenaaDoor.Tz.xy [1, 1, 0, 0]
def a3R : aa → aa := gX Go.Proofs.YtbamejikafhenaaDoor.Tz.xy [1, 1, 0, 0]
def uS : Sm := aC Go.Proofs.YtbamejikafhenaaDoor.Tz.xy [1, 1, 0, 0, 0, 0, 1]
def a8y : Sm := aC Go.Proofs.YtbamejikafhenaaDoor.Tz.xy [1, 1, 0]
def ym : Sm := aC Go.Proofs.YtbamejikafhenaaDoor.Tz.xy [1, 1, 0, 0, 0, 1]
def wc : Sm := aC Go.Proofs.YtbamejikafhenaaDoor.Tz.xy [1, 1, 1, 1, 0, 1]
def ad1 : aa → aa := eN Go.Proofs.YtbamejikafhenaaDoor.Tz.xy
theorem t27 (x0 : AV) (hp : Hp) : r27.f (.nd x0 .lf .lf) hp = ad1 (a2D (.n x0 (.int 3 0) (S []) (.int 3 0) .uu .uu .uu .uu .e) hp) := (congrArg (fun F => bN.f F (.nd x0 .lf .lf) hp) (ba Go.Proofs.YtbamejikafhenaaDoor.Tz.xy).symm).trans (by kernel_rfl)
theorem ret27 (x0 x1 x2 x3 x4 : AV) (hp : Hp) : ad1 (.ret (.n x0 x1 x2 x3 x4 .uu .uu .uu .e) hp) = .val (.bB (.nd x1 .lf (.nd x2 .lf .lf)) 2) hp := by kernel_rfl
theorem uJ (x0 x1 x2 x3 x4 : AV) (hp : Hp) : (oz).run .lf (.n x0 x1 x2 x3 x4 .uu .uu .uu .e) hp = cz mem 0 x0 hp (fun v0 => ar (Nat.ble v0 9223372036854775807) ((ae .lss 3).f x3 (.int 3 v0) (fun v1 => gd v1 true hp (fun k2 => k2 x0 hp) (fun v3 v4 => gd v1 true v4 (fun k5 => k5 x3 v4) (fun v6 v7 => gd v1 true v7 (fun k8 => AV.ea v3 (fun v9 v10 => fP v6 v10 (fun v11 => bu 4 (Nat.mod (Nat.div v9 (Nat.pow 256 v11)) 256) (fun v12 => k8 v12 v7)))) (fun v13 v14 => gd v1 true v14 (fun k15 => (ae .geq 4).f v13 (.int 4 48) (fun v16 => k15 v16 v14)) (fun v17 v18 => gd v1 true v18 (fun k19 => k19 v17 v18) (fun v20 v21 => gd v20 true v21 (fun k22 => k22 x0 v21) (fun v23 v24 => gd v20 true v24 (fun k25 => k25 x3 v24) (fun v26 v27 => gd v20 true v27 (fun k28 => AV.ea v23 (fun v29 v30 => fP v26 v30 (fun v31 => bu 4 (Nat.mod (Nat.div v29 (Nat.pow 256 v31)) 256) (fun v32 => k28 v32 v27)))) (fun v33 v34 => gd v20 true v34 (fun k35 => (ae .leq 4).f v33 (.int 4 57) (fun v36 => k35 v36 v34)) (fun v37 v38 => gd v1 true v38 (fun k39 => aI v20 (fun v40 => v40 v37) (fun v41 => v41 (.bool false)) (fun v42 => k39 v42 v38)) (fun v43 v44 => gd v1 true v44 (fun k45 => k45 v43 v44) (fun v46 v47 => gd v46 false v47 (fun k48 => k48 x3 v47) (fun v49 v50 => gd v46 false v50 (fun k51 => (ae .eql 3).f v49 (.int 3 0) (fun v52 => k51 v52 v50)) (fun v53 v54 => gd v46 false v54 (fun k55 => k55 v53 v54) (fun v56 v57 => gd v56 true v57 (fun k58 => k58 x0 v57) (fun v59 v60 => gd v56 true v60 (fun k61 => k61 x3 v60) (fun v62 v63 => gd v56 true v63 (fun k64 => AV.ea v59 (fun v65 v66 => fP v62 v66 (fun v67 => bu 4 (Nat.mod (Nat.div v65 (Nat.pow 256 v67)) 256) (fun v68 => k64 v68 v63)))) (fun v69 v70 => gd v56 true v70 (fun k71 => (ae .eql 4).f v69 (.int 4 45) (fun v72 => k71 v72 v70)) (fun v73 v74 => gd v46 false v74 (fun k75 => aI v56 (fun v76 => v76 v73) (fun v77 => v77 (.bool false)) (fun v78 => k75 v78 v74)) (fun v79 v80 => gd v1 true v80 (fun k81 => aI v46 (fun v82 => v82 (.bool true)) (fun v83 => v83 v79) (fun v84 => k81 v84 v80)) (fun v85 v86 => aI v1 (fun v87 => v87 v85) (fun v88 => v88 (.bool false)) (fun v89 => AV.ay v89 (fun v90 => when v90 ((uS).run .lf (.n x0 x1 x2 x3 x4 .uu .uu .uu .e) v86) (.exit 0 (.n x0 x1 x2 x3 x4 .uu .uu .uu .e) v86)))))))))))))))))))))))))) := by kernel_rfl
theorem a4B (fr : Fr) (hp : Hp) : a2D fr hp = a3R (aD oz 1000000 fr hp) := rfl
theorem a5W (fr : Fr) (hp : Hp) : a3R (.exit 0 fr hp) = (a8y).run .lf fr hp := by kernel_rfl
theorem kM (x0 x1 x2 x3 x4 : AV) (hp : Hp) : (uS).run .lf (.n x0 x1 x2 x3 x4 .uu .uu .uu .e) hp = (ae .add 3).f x3 (.int 3 1) (fun v91 => (ym).run .lf (.n x0 x1 x2 v91 x4 .uu .uu .uu .e) hp) := by kernel_rfl
theorem qN (x0 x1 x2 x3 x4 : AV) (hp : Hp) : (a8y).run .lf (.n x0 x1 x2 x3 x4 .uu .uu .uu .e) hp = dj x0 .none (.some x3) (fun v92 => au mem false r54 (.nd v92 .lf .lf) hp (fun v93 v94 => bg 0 v93 (fun v95 => bg 1 v93 (fun v96 => (ae .neq 3).f v96 (.int 3 0) (fun v97 => gd v97 false v94 (fun k98 => k98 v95 v94) (fun v99 v100 => gd v97 false v100 (fun k101 => (ae .lss 3).f v99 (.int 3 18446744073709551615) (fun v102 => k101 v102 v100)) (fun v103 v104 => aI v97 (fun v105 => v105 (.bool true)) (fun v106 => v106 v103) (fun v107 => gd v107 false v104 (fun k108 => k108 v95 v104) (fun v109 v110 => gd v107 false v110 (fun k111 => (ae .gtr 3).f v109 (.int 3 100000) (fun v112 => k111 v112 v110)) (fun v113 v114 => aI v107 (fun v115 => v115 (.bool true)) (fun v116 => v116 v113) (fun v117 => AV.ay v117 (fun v118 => when v118 (eY 5 v114 (fun v119 => dj x0 (.some x3) .none (fun v120 => .ret (.n x0 (.int 3 0) v120 x3 v95 .uu .uu .uu .e) v119))) ((wc).run .lf (.n x0 x1 x2 x3 v95 .uu .uu .uu .e) v114))))))))))))) := by kernel_rfl
theorem lG (x0 x1 x2 x3 x4 : AV) (hp : Hp) : (ym).run .lf (.n x0 x1 x2 x3 x4 .uu .uu .uu .e) hp = .ok (.n x0 x1 x2 x3 x4 .uu .uu .uu .e) hp := by kernel_rfl
theorem lJ (x0 x1 x2 x3 x4 : AV) (hp : Hp) : (wc).run .lf (.n x0 x1 x2 x3 x4 .uu .uu .uu .e) hp = eY 6 hp (fun v121 => dj x0 (.some x3) .none (fun v122 => .ret (.n x0 x4 v122 x3 x4 .uu .uu .uu .e) v121)) := by kernel_rfl
end
noncomputable section
def a7f : Sm := aC Go.Proofs.YtbamejikafhenaaDoor.Tz.adz [1, 0, 1]
def a7z : aa → aa := eN Go.Proofs.YtbamejikafhenaaDoor.Tz.adz
theorem t28 (x0 x1 : AV) (hp : Hp) : r28.f (.nd x0 .lf (.nd x1 .lf .lf)) hp = a7z (cz mem 0 x0 hp (fun v0 => ar (Nat.ble v0 9223372036854775807) ((ae .gtr 3).f x1 (.int 3 v0) (fun v1 => AV.ay v1 (fun v2 => when v2 (.ret (.n x0 x1 (S []) .uu .uu .uu .uu .uu .e) hp) ((a7f).run .lf (.n x0 x1 (S []) .uu .uu .uu .uu .uu .e) hp)))))) := (congrArg (fun F => bN.f F (.nd x0 .lf (.nd x1 .lf .lf)) hp) (ba Go.Proofs.YtbamejikafhenaaDoor.Tz.adz).symm).trans (by kernel_rfl)
theorem ag3 (x0 x1 x2 : AV) (hp : Hp) : a7z (.ret (.n x0 x1 x2 .uu .uu .uu .uu .uu .e) hp) = .val x2 hp := by kernel_rfl
theorem a4L (x0 x1 x2 : AV) (hp : Hp) : (a7f).run .lf (.n x0 x1 x2 .uu .uu .uu .uu .uu .e) hp = dj x0 (.some x1) .none (fun v3 => .ret (.n x0 x1 v3 .uu .uu .uu .uu .uu .e) hp) := by kernel_rfl
end
end Go.Proofs.YtbamejikafhenaaDoor.Tz
