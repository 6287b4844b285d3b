import Derived.Test.YtflbiiflbehleaaCost2
namespace Go.Proofs.Ytflbiiflbehleaa
open Go.RowKit
def Ro.fairB (x : Ro) : Bool := decide (x.fs.length ≤ 170) && decide (x.ds.length ≤ 410) && decide (x.ps.length ≤ 410) && x.fs.all fun f => decide (f.ls.length ≤ 16)
theorem Ro.fairB_iff (x : Ro) : x.fairB = true ↔ (x.fs.length ≤ 170 ∧ x.ds.length ≤ 410 ∧ x.ps.length ≤ 410 ∧ ∀ f, f ∈ x.fs → f.ls.length ≤ 16) := by
  simp [Ro.fairB, and_assoc]
def Ro.frames (x : Ro) : Nat := x.fs.length
def Ro.records (x : Ro) : Nat := x.ds.length + x.ps.length
def St.fairB (s : St) : Bool := decide (s.rs.length ≤ 16) && s.rs.all Ro.fairB
/-- The cost of a state of fair size. -/
def St.F (s : St) : Int := if s.fairB then (sumTo Ro.frames s.rs s.rs.length : Int) else 0
def St.R (s : St) : Int := if s.fairB then (sumTo Ro.records s.rs s.rs.length : Int) else 0
def St.W (s : St) : Int := if s.fairB then wrap64 (sumTo Ro.weight s.rs s.rs.length : Int) else 0
def St.S (s : St) : Int := if s.fairB then 7 else 0
def St.err (s : St) : Int := if s.fairB then 0 else 4
/-- What State hands back. -/
def Costs (s : St) (w : World) (e : Ending) (w' : World) : Prop :=
  e = .returned (.tuple #[.agg #[.int .i64 s.S, .int .i64 s.F, .int .i64 s.R, .int .i64 s.W], .int .i64 s.err]) ∧ Grow w w'
theorem Costs.yes {s : St} {w w' : World} (h : s.fairB = true) (g : Grow w w') : Costs s w (.returned (.tuple #[.agg #[.int .i64 7, .int .i64 (sumTo Ro.frames s.rs s.rs.length : Int), .int .i64 (sumTo Ro.records s.rs s.rs.length : Int), .int .i64 (wrap64 (sumTo Ro.weight s.rs s.rs.length : Int))], .int .i64 0])) w' := by
  refine ⟨?_, g⟩
  simp [St.S, St.F, St.R, St.W, St.err, h]
theorem Costs.no {s : St} {w w' : World} (h : s.fairB = false) (g : Grow w w') : Costs s w (.returned (.tuple #[.agg #[.int .i64 0, .int .i64 0, .int .i64 0, .int .i64 0], .int .i64 4])) w' := by
  refine ⟨?_, g⟩
  simp [St.S, St.F, St.R, St.W, St.err, h]
/-- The first k are fair. -/
def FairTo (l : List Ro) (k : Nat) : Prop := ∀ (i : Nat) (r : Ro), i < k → l[i]? = some r → r.fairB = true
theorem FairTo.zero (l : List Ro) : FairTo l 0 := fun i _ h => absurd h (by omega)
theorem FairTo.succ {l : List Ro} {k : Nat} (h : FairTo l k) {y : Ro} (hy : l[k]? = some y) (h4 : y.fairB = true) : FairTo l (k + 1) := by
  intro i f hi hf
  by_cases e : i = k
  · subst e; rw [hy] at hf; cases hf; exact h4
  · exact h i f (by omega) hf
theorem FairTo.all {s : St} (h : FairTo s.rs s.rs.length) (h0 : s.rs.length ≤ 16) : s.fairB = true := by
  simp only [St.fairB, Bool.and_eq_true, decide_eq_true_eq, List.all_eq_true]
  refine ⟨h0, fun r hr => ?_⟩
  obtain ⟨i, hi, rfl⟩ := List.getElem_of_mem hr
  exact h i _ hi (List.getElem?_eq_getElem hi)
theorem unfair_of {s : St} {k : Nat} {y : Ro} (hy : s.rs[k]? = some y) (h : y.fairB = false) : s.fairB = false := by
  rw [Bool.eq_false_iff]
  intro hh
  simp only [St.fairB, Bool.and_eq_true, List.all_eq_true] at hh
  rw [hh.2 y (getElem?_mem' hy)] at h
  cases h
theorem unfair_len {s : St} (h : ¬ s.rs.length ≤ 16) : s.fairB = false := by
  rw [Bool.eq_false_iff]
  intro hh
  simp only [St.fairB, Bool.and_eq_true, decide_eq_true_eq] at hh
  exact h hh.1
theorem fair_bounds {l : List Ro} {k : Nat} (h : FairTo l k) : sumTo Ro.frames l k ≤ 170 * k ∧ sumTo Ro.records l k ≤ 820 * k := by
  induction k with
  | zero => simp [sumTo_zero]
  | succ k ih =>
    have ih := ih fun i r hi hr => h i r (by omega) hr
    cases hy : l[k]? with
    | none =>
      have e : ∀ f : Ro → Nat, sumTo f l (k + 1) = sumTo f l k := by
        intro f
        have := List.getElem?_eq_none_iff.1 hy
        simp [sumTo, List.take_of_length_le this, List.take_of_length_le (Nat.le_succ_of_le this)]
      rw [e, e]; omega
    | some y =>
      have hf := (Ro.fairB_iff y).1 (h k y (by omega) hy)
      rw [sumTo_succ _ hy, sumTo_succ _ hy]
      simp only [Ro.frames, Ro.records] at *
      omega
theorem cost_routine_no (x : Ro) (w : World) (hx : x.In w) (h : x.fairB = false) : Calls Try.prog 57 #[x.agg] w (Unpriced w) := by
  by_cases hh : x.fs.length ≤ 170 ∧ x.ds.length ≤ 410 ∧ x.ps.length ≤ 410
  · refine cost_routine_wide x w hx hh.1 hh.2.1 hh.2.2 fun h4 => ?_
    rw [(Ro.fairB_iff x).2 ⟨hh.1, hh.2.1, hh.2.2, h4⟩] at h
    cases h
  · exact cost_routine_many x w hx hh
theorem cost_routine_yes (x : Ro) (w : World) (hx : x.In w) (h : x.fairB = true) : Calls Try.prog 57 #[x.agg] w (Priced x w) := by
  obtain ⟨h1, h2, h3, h4⟩ := (Ro.fairB_iff x).1 h
  exact cost_routine_fair x w hx h1 h2 h3 h4
set_option maxRecDepth 100000 in
set_option maxHeartbeats 2000000 in
theorem cost_State (s : St) (w : World) (hs : s.In w) : Calls Try.prog 28 #[s.agg] w (Costs s w) := by
  have m1 := hs.rs.1.bound
  by_cases h16 : s.rs.length ≤ 16
  case neg =>
    have t1 : decide ((16 : Int) < (s.rs.length : Int)) = true := by simp; omega
    have HU := Lib.hid (unfair_len h16)
    clear hs h16
    go_enter Try.func28, Try.ntmps28
    go_wp2_with fail
    exact bodyPost_ret (v := .tuple #[.agg #[.int .i64 0, .int .i64 0, .int .i64 0, .int .i64 0], .int .i64 4]) (by simp [results, Try.results28, go_sem]) rfl (Costs.no HU.out (((Below.refl _ _).alloc' _).alloc' _))
  have HFA := Lib.hid (fun h => FairTo.all (s := s) h h16)
  have HUF := Lib.hid (fun k y => @unfair_of s k y)
  have HYES := Lib.hid (fun w' => @Costs.yes s w w')
  have HNO := Lib.hid (fun w' => @Costs.no s w w')
  generalize hC : Costs s w = C at *
  have HS := Lib.hid hs
  obtain ⟨out, failing, steps, rsP, rsC, rs⟩ := s
  simp only [St.agg] at *
  clear hs hC
  have t1 : decide ((16 : Int) < (rs.length : Int)) = false := by simp; omega
  go_enter Try.func28, Try.ntmps28
  go_wp2_with fail
  go_loopw [18] (fun i wr => ∃ k : Nat, k ≤ rs.length ∧ FairTo rs k ∧ i = .int .i64 k ∧ Grow w wr ∧ CostAt wr (w.heap.size + 1) 0 0 0 0 ∧ CostAt wr (w.heap.size + 1 + 1) 7 (sumTo Ro.frames rs k : Int) (sumTo Ro.records rs k : Int) (wrap64 (sumTo Ro.weight rs k : Int))) (fun i _ => rs.length - (intOf i).toNat)
  case atStart =>
    refine ⟨0, Nat.zero_le _, FairTo.zero _, rfl, (((Below.refl _ _).alloc' _).alloc' _).alloc' _, CostAt.grow (alloc_at (n := w.heap.size + 1) (w.alloc _) _ (by simp)) ((Below.refl _ _).alloc' _), ?_⟩
    rw [sumTo_zero, sumTo_zero, sumTo_zero, show wrap64 ((0 : Nat) : Int) = 0 from wrap64_small (by omega) (by omega)]
    exact alloc_at (n := w.heap.size + 1 + 1) ((w.alloc _).alloc _) _ (by simp)
  case round =>
    obtain ⟨k, hk, hft, rfl, hbl, r1, r2⟩ := hrel
    have hbd := fair_bounds hft
    have HFT := Lib.hid hft
    have hz0 : w.heap.size + 1 < wr.heap.size := r1.lt
    have hz1 : w.heap.size + 1 + 1 < wr.heap.size := r2.lt
    clear hft
    by_cases hlt : k < rs.length
    · obtain ⟨y, hy⟩ : ∃ y, rs[k]? = some y := ⟨_, List.getElem?_eq_getElem hlt⟩
      have hyin := HS.out.rs.2 y (getElem?_mem' hy)
      obtain ⟨b, o, hp, hb, he⟩ := HS.out.rs.1.elem hy
      simp only at hp
      subst hp
      obtain ⟨a0, a1, a2, a3, a4⟩ := (he.grow hbl).ro
      have hbz : b < wr.heap.size := cell_lt a0
      have HYI := Lib.hid hyin
      have HY := Lib.hid hy
      have GA := Lib.hid (show Grow wr (wr.alloc (.cells #[.int .u8 y.status, .int .i64 y.key, .slice y.fsP y.fs.length y.fsC, .slice y.dsP y.ds.length y.dsC, .slice y.psP y.ps.length y.psC] 68)) from (Below.refl _ _).alloc' _)
      clear he hy hyin
      cases hyf : y.fairB
      · have HU := Lib.hid (HUF.out k y HY.out hyf)
        have HR1 := Lib.hid r1
        have HR2 := Lib.hid r2
        clear r1 r2
        go_wp2_with fail
        refine (cost_routine_no y _ (HYI.out.grow (hbl.then GA.out)) hyf).mono ?_
        rintro e w' ⟨p0, p1, p2, p3, rfl, hg⟩
        have GW := Lib.hid (GA.out.then hg)
        have r1 := HR1.out.grow GW.out
        obtain ⟨d0, d1, d2, d3⟩ := r1.cells
        have u0 := r1.free 0
        have u1 := r1.free 1
        have u2 := r1.free 2
        have u3 := r1.free 3
        have hz3 : w.heap.size + 1 < w'.heap.size := r1.lt
        have R1 := Lib.hid r1
        clear r1 hg a0 a1 a2 a3 a4
        go_wp2_with fail
        obtain ⟨x0, x1, x2, x3⟩ := ((((R1.out.set0 0).set1 0).set2 0).set3 0).grow ((Below.refl _ _).alloc' (.cells #[.int .i64 p0, .int .i64 p1, .int .i64 p2, .int .i64 p3] 51)) |>.cells
        exact bodyPost_ret (v := .tuple #[.agg #[.int .i64 0, .int .i64 0, .int .i64 0, .int .i64 0], .int .i64 4]) (by simp [results, Try.results28, go_sem, x0, x1, x2, x3]) rfl (HNO.out _ HU.out ((((((hbl.then GW.out).setCell (by simp) _).setCell (by simp) _).setCell (by simp) _).setCell (by simp) _).alloc' _))
      · obtain ⟨f1, f2, f3, _⟩ := (Ro.fairB_iff y).1 hyf
        have HR1 := Lib.hid r1
        have HR2 := Lib.hid r2
        clear r1 r2
        go_wp2_with fail
        refine (cost_routine_yes y _ (HYI.out.grow (hbl.then GA.out)) hyf).mono ?_
        rintro e w' ⟨rfl, hg⟩
        have GW := Lib.hid (GA.out.then hg)
        have r1 := HR1.out.grow GW.out
        have r2 := HR2.out.grow GW.out
        have hz3 : w.heap.size + 1 + 1 < w'.heap.size := r2.lt
        generalize hV0 : wrap64 ((sumTo Ro.weight rs k : Nat) : Int) = V0 at r2
        generalize hV1 : wrap64 ((y.weight : Nat) : Int) = V1
        have HV0 := Lib.hid hV0
        have HV1 := Lib.hid hV1
        obtain ⟨e0, e1, e2, e3⟩ := r2.cells
        have u0 := r2.free 0
        have u1 := r2.free 1
        have u2 := r2.free 2
        have u3 := r2.free 3
        have R1 := Lib.hid r1
        have R2 := Lib.hid r2
        clear r1 r2 hg a0 a1 a2 a3 a4 hV0 hV1
        have HF := Lib.hid (sumTo_succ Ro.frames HY.out)
        have HRc := Lib.hid (sumTo_succ Ro.records HY.out)
        have HWt := Lib.hid (sumTo_succ Ro.weight HY.out)
        generalize sumTo Ro.frames rs k = F0 at *
        generalize sumTo Ro.records rs k = R0 at *
        go_wp2_with fail
        have GS := Lib.hid (((((hbl.then GW.out).setCell (p := ⟨w.heap.size + 1 + 1, 1, none⟩) (by simp; omega) (.int .i64 ((F0 : Int) + y.fs.length))).setCell (p := ⟨w.heap.size + 1 + 1, 2, none⟩) (by simp; omega) (.int .i64 ((R0 : Int) + ((y.ds.length : Int) + y.ps.length)))).setCell (p := ⟨w.heap.size + 1 + 1, 3, none⟩) (by simp; omega) (.int .i64 (wrap64 (V0 + V1)))))
        refine ⟨⟨k + 1, by omega, HFT.out.succ HY.out hyf, by go_num, GS.out.alloc' _, (((R1.out.other (by simp) _).other (by simp) _).other (by simp) _).grow ((Below.refl _ _).alloc' _), ?_⟩, by simp [intOf]; omega⟩
        have e := (((R2.out.set1 ((F0 : Int) + y.fs.length)).set2 ((R0 : Int) + ((y.ds.length : Int) + y.ps.length))).set3 (wrap64 (V0 + V1))).grow ((Below.refl _ _).alloc' (.cells #[.int .i64 0, .int .i64 y.fs.length, .int .i64 ((y.ds.length : Int) + y.ps.length), .int .i64 V1] 51))
        have g1 : ((sumTo Ro.frames rs (k + 1) : Nat) : Int) = (F0 : Int) + y.fs.length := by rw [HF.out]; simp [Ro.frames]
        have g2 : ((sumTo Ro.records rs (k + 1) : Nat) : Int) = (R0 : Int) + ((y.ds.length : Int) + y.ps.length) := by rw [HRc.out]; simp [Ro.records]
        have g3 : wrap64 ((sumTo Ro.weight rs (k + 1) : Nat) : Int) = wrap64 (V0 + V1) := by
          rw [← HV0.out, ← HV1.out, wrap64_add_left, wrap64_add_right, HWt.out]; congr 1
        rw [g1, g2, g3]
        exact e
    · obtain rfl : k = rs.length := by omega
      have HU := Lib.hid (HFA.out HFT.out)
      generalize hV0 : wrap64 ((sumTo Ro.weight rs rs.length : Nat) : Int) = V0 at *
      have HV0 := Lib.hid hV0
      obtain ⟨d0, d1, d2, d3⟩ := r1.cells
      obtain ⟨f0, f1, f2, f3⟩ := r2.cells
      have u0 := r1.free 0
      have u1 := r1.free 1
      have u2 := r1.free 2
      have u3 := r1.free 3
      have R1 := Lib.hid r1
      have HY2 := Lib.hid (fun w' g => HYES.out w' HU.out g)
      generalize sumTo Ro.frames rs rs.length = F0 at *
      generalize sumTo Ro.records rs rs.length = R0 at *
      clear r1 r2 hV0
      go_wp2_with fail
      obtain ⟨x0, x1, x2, x3⟩ := ((((R1.out.set0 7).set1 F0).set2 R0).set3 V0).cells
      refine bodyPost_ret (v := .tuple #[.agg #[.int .i64 7, .int .i64 F0, .int .i64 R0, .int .i64 V0], .int .i64 0]) (by simp [results, Try.results28, go_sem, x0, x1, x2, x3]) rfl ?_
      have := HY2.out _ ((((hbl.setCell (p := ⟨w.heap.size + 1, 0, none⟩) (by simp) (.int .i64 7)).setCell (p := ⟨w.heap.size + 1, 1, none⟩) (by simp) (.int .i64 F0)).setCell (p := ⟨w.heap.size + 1, 2, none⟩) (by simp) (.int .i64 R0)).setCell (p := ⟨w.heap.size + 1, 3, none⟩) (by simp) (.int .i64 V0))
      exact this
end Go.Proofs.Ytflbiiflbehleaa
