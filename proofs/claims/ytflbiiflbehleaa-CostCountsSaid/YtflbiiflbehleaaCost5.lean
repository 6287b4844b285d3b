import Derived.Test.YtflbiiflbehleaaCost4
namespace Go.Proofs.Ytflbiiflbehleaa
open Go.RowKit
theorem fair_one {s : St} (h : s.fairB = true) {k : Nat} {y : Ro} (hy : s.rs[k]? = some y) : y.fs.length ≤ 170 ∧ y.ds.length ≤ 410 ∧ y.ps.length ≤ 410 := by
  simp only [St.fairB, Bool.and_eq_true, List.all_eq_true] at h
  obtain ⟨a, b, c, _⟩ := (Ro.fairB_iff y).1 (h.2 y (getElem?_mem' hy))
  exact ⟨a, b, c⟩
theorem fairTo_of {s : St} (h : s.fairB = true) (k : Nat) : FairTo s.rs k := by
  simp only [St.fairB, Bool.and_eq_true, List.all_eq_true] at h
  exact fun i r _ hr => h.2 r (getElem?_mem' hr)
theorem fair_len {s : St} (h : s.fairB = true) : s.rs.length ≤ 16 := by
  simp only [St.fairB, Bool.and_eq_true, decide_eq_true_eq] at h
  exact h.1
set_option maxRecDepth 100000 in
set_option maxHeartbeats 8000000 in
theorem ref41_State (s : St) (w : World) (hs : s.In w) : Calls Try.prog 29 #[s.agg] w (Costs s w) := by
  have HS := Lib.hid hs
  have HYES := Lib.hid (fun w' => @Costs.yes s w w')
  have HNO := Lib.hid (fun w' => @Costs.no s w w')
  have m1 := hs.rs.1.bound
  clear hs
  have HC := Lib.hid (show ∀ (v : V) w1, v.In w1 → Calls Try.prog 59 #[v.agg] w1 fun e w' => e = .returned (.int .i64 (wrap64 v.size)) ∧ Grow w1 w' from fun v w1 h => ref32_Weight v w1 h)
  have G0 := Lib.hid (show Grow w ((w.alloc (.cells #[.int .u8 s.out, .int .i64 s.failing, .int .i64 s.steps, .slice s.rsP s.rs.length s.rsC] 24)).alloc (.cells #[.int .i64 0, .int .i64 0, .int .i64 0, .int .i64 0] 51)) from ((Below.refl _ _).alloc' _).alloc' _)
  have R0 := Lib.hid (show CostAt ((w.alloc (.cells #[.int .u8 s.out, .int .i64 s.failing, .int .i64 s.steps, .slice s.rsP s.rs.length s.rsC] 24)).alloc (.cells #[.int .i64 0, .int .i64 0, .int .i64 0, .int .i64 0] 51)) (w.heap.size + 1) 0 0 0 0 from alloc_at (n := w.heap.size + 1) (w.alloc _) _ (by simp))
  go_enter Try.func29, Try.ntmps29
  go_wp2_with fail
  refine (ref41_Fair s _ (HS.out.grow G0.out)).mono ?_
  rintro e w1 ⟨rfl, hg1⟩
  have c3 := hg1.keep (p := ⟨w.heap.size, 3, none⟩) (v := .slice s.rsP s.rs.length s.rsC) (by go_simp)
  have r1 := R0.out.grow hg1
  have hz1 : w.heap.size + 1 < w1.heap.size := r1.lt
  have G1 := Lib.hid (G0.out.then hg1)
  clear hg1 R0 G0
  cases hfair : s.fairB
  · have HU := Lib.hid hfair
    obtain ⟨d0, d1, d2, d3⟩ := r1.cells
    have u0 := r1.free 0
    have u1 := r1.free 1
    have u2 := r1.free 2
    have u3 := r1.free 3
    have R1 := Lib.hid r1
    clear r1 hfair
    go_wp2_with fail
    obtain ⟨x0, x1, x2, x3⟩ := ((((R1.out.set0 0).set1 0).set2 0).set3 0).cells
    exact bodyPost_ret (v := .tuple #[.agg #[.int .i64 0, .int .i64 0, .int .i64 0, .int .i64 0], .int .i64 4]) (by simp [results, Try.results29, go_sem, x0, x1, x2, x3]) rfl (HNO.out _ HU.out ((((G1.out.setCell (by simp) _).setCell (by simp) _).setCell (by simp) _).setCell (by simp) _))
  have HU := Lib.hid hfair
  have h16 := fair_len hfair
  obtain ⟨B, hB⟩ : ∃ B, B = w1.heap.size := ⟨_, rfl⟩
  have R1 := Lib.hid r1
  have C3 := Lib.hid c3
  clear hfair r1 c3
  go_wp2_with fail
  rw [← hB]
  rw [← hB] at hz1
  have HB := Lib.hid hB
  clear hB
  go_loopw [5] (fun i wr => ∃ k : Nat, k ≤ s.rs.length ∧ i = .int .i64 k ∧ Grow w wr ∧ wr.cell? ⟨w.heap.size, 3, none⟩ = some (.slice s.rsP s.rs.length s.rsC) ∧ CostAt wr (w.heap.size + 1) 0 0 0 0 ∧ CostAt wr B 7 (sumTo Ro.frames s.rs k : Int) (sumTo Ro.records s.rs k : Int) (wrap64 (sumTo Ro.weight s.rs k : Int))) (fun i _ => s.rs.length - (intOf i).toNat)
  case atStart =>
    have ga : Grow w1 (w1.alloc (.cells #[.int .i64 7, .int .i64 0, .int .i64 0, .int .i64 0] 51)) := (Below.refl _ _).alloc' _
    refine ⟨0, Nat.zero_le _, rfl, G1.out.then ga, ga.keep C3.out, R1.out.grow ga, ?_⟩
    rw [sumTo_zero, sumTo_zero, sumTo_zero, show wrap64 ((0 : Nat) : Int) = 0 from wrap64_small (by omega) (by omega)]
    exact alloc_at (n := B) w1 _ HB.out
  case round =>
    obtain ⟨k, hk, rfl, hbl, c3, r1, r2⟩ := hrel
    have hbd := fair_bounds (fairTo_of HU.out k)
    have hzB : B < wr.heap.size := r2.lt
    have hz0 : w.heap.size < wr.heap.size := by omega
    by_cases hlt : k < s.rs.length
    · obtain ⟨y, hy⟩ : ∃ y, s.rs[k]? = some y := ⟨_, List.getElem?_eq_getElem hlt⟩
      obtain ⟨f1, f2, f3⟩ := fair_one HU.out hy
      have hyin := HS.out.rs.2 y (getElem?_mem' hy)
      obtain ⟨b, o, hp, hb, he⟩ := HS.out.rs.1.elem hy
      obtain ⟨a0, a1, a2, a3, a4⟩ := (he.grow hbl).ro
      have hbz : b < wr.heap.size := cell_lt a0
      have d3 := c3
      rw [hp] at d3
      have HYI := Lib.hid hyin
      have HY := Lib.hid hy
      have C3' := Lib.hid c3
      have HF := Lib.hid (sumTo_succ Ro.frames hy)
      have HRc := Lib.hid (sumTo_succ Ro.records hy)
      clear he hy hyin hp c3
      generalize hV0 : wrap64 ((sumTo Ro.weight s.rs k : Nat) : Int) = V0 at r2
      have HV0 := Lib.hid hV0
      clear hV0
      generalize sumTo Ro.frames s.rs k = F0 at *
      generalize sumTo Ro.records s.rs k = R0 at *
      obtain ⟨e0, e1, e2, e3⟩ := r2.cells
      have u1 := r2.free 1
      have u2 := r2.free 2
      have HR2 := Lib.hid r2
      clear r2
      go_wp2_with fail
      obtain ⟨X, hX⟩ : ∃ X, X = wr.heap.size := ⟨_, rfl⟩
      have HX := Lib.hid hX
      have hBX : B < X := by rw [hX]; exact hzB
      obtain ⟨F, hF⟩ : ∃ F : Int, F = (F0 : Int) + y.fs.length := ⟨_, rfl⟩
      obtain ⟨R, hR⟩ : ∃ R : Int, R = (R0 : Int) + ((y.ds.length : Int) + y.ps.length) := ⟨_, rfl⟩
      rw [← hX]
      clear hX
      have HFk : Hid (F = ((sumTo Ro.frames s.rs (k + 1) : Nat) : Int)) := by show F = _; rw [HF.out, hF]; simp [Ro.frames]
      have HRk : Hid (R = ((sumTo Ro.records s.rs (k + 1) : Nat) : Int)) := by show R = _; rw [HRc.out, hR]; simp [Ro.records]
      have GS := Lib.hid (((hbl.setCell (p := ⟨B, 1, none⟩) (by simp; omega) (.int .i64 ((F0 : Int) + y.fs.length))).setCell (p := ⟨B, 2, none⟩) (by simp; omega) (.int .i64 ((R0 : Int) + ((y.ds.length : Int) + y.ps.length)))).alloc' (.cells #[.int .u8 y.status, .int .i64 y.key, .slice y.fsP y.fs.length y.fsC, .slice y.dsP y.ds.length y.dsC, .slice y.psP y.ps.length y.psC] 68))
      have ST : Hid (CostAt (((wr.setCell ⟨B, 1, none⟩ (.int .i64 ((F0 : Int) + y.fs.length))).setCell ⟨B, 2, none⟩ (.int .i64 ((R0 : Int) + ((y.ds.length : Int) + y.ps.length)))).alloc (.cells #[.int .u8 y.status, .int .i64 y.key, .slice y.fsP y.fs.length y.fsC, .slice y.dsP y.ds.length y.dsC, .slice y.psP y.ps.length y.psC] 68)) B 7 F R V0) := by
        show CostAt _ _ _ _ _ _
        rw [hF, hR]
        exact (((HR2.out.set1 _).set2 _).grow ((Below.refl _ _).alloc' _))
      have ST1 := Lib.hid ((((r1.other (a := ⟨B, 1, none⟩) (by simp; omega) (.int .i64 ((F0 : Int) + y.fs.length))).other (a := ⟨B, 2, none⟩) (by simp; omega) (.int .i64 ((R0 : Int) + ((y.ds.length : Int) + y.ps.length)))).grow ((Below.refl _ _).alloc' (.cells #[.int .u8 y.status, .int .i64 y.key, .slice y.fsP y.fs.length y.fsC, .slice y.dsP y.ds.length y.dsC, .slice y.psP y.ps.length y.psC] 68))))
      have ST3 := Lib.hid ((Below.refl _ _).alloc' (.cells #[.int .u8 y.status, .int .i64 y.key, .slice y.fsP y.fs.length y.fsC, .slice y.dsP y.ds.length y.dsC, .slice y.psP y.ps.length y.psC] 68) |>.keep (cell_other (cell_other C3'.out (a := ⟨B, 1, none⟩) (by simp; omega) (.int .i64 ((F0 : Int) + y.fs.length))) (a := ⟨B, 2, none⟩) (by simp; omega) (.int .i64 ((R0 : Int) + ((y.ds.length : Int) + y.ps.length)))))
      have XC : ∀ (j : Nat) (v : Value), ([.int .u8 y.status, .int .i64 y.key, .slice y.fsP y.fs.length y.fsC, .slice y.dsP y.ds.length y.dsC, .slice y.psP y.ps.length y.psC] : List Value)[j]? = some v → (((wr.setCell ⟨B, 1, none⟩ (.int .i64 ((F0 : Int) + y.fs.length))).setCell ⟨B, 2, none⟩ (.int .i64 ((R0 : Int) + ((y.ds.length : Int) + y.ps.length)))).alloc (.cells #[.int .u8 y.status, .int .i64 y.key, .slice y.fsP y.fs.length y.fsC, .slice y.dsP y.ds.length y.dsC, .slice y.psP y.ps.length y.psC] 68)).cell? ⟨X, j, none⟩ = some v := by
        intro j v hj
        have := alloc_at (n := X) ((wr.setCell ⟨B, 1, none⟩ (.int .i64 ((F0 : Int) + y.fs.length))).setCell ⟨B, 2, none⟩ (.int .i64 ((R0 : Int) + ((y.ds.length : Int) + y.ps.length)))) (.cells #[.int .u8 y.status, .int .i64 y.key, .slice y.fsP y.fs.length y.fsC, .slice y.dsP y.ds.length y.dsC, .slice y.psP y.ps.length y.psC] 68) (by rw [HX.out]; simp [World.setCell])
        simp only [World.cell?, this]
        simpa using hj
      have HXC := Lib.hid XC
      clear XC e0 e1 e2 e3 u1 u2 a0 a1 a2 a3 a4 d3 r1 hbl hF hR hzB hz0 hbz
      go_loopw [7] (fun i wr => ∃ n : Nat, n ≤ y.fs.length ∧ i = .int .i64 n ∧ Grow w wr ∧ wr.cell? ⟨w.heap.size, 3, none⟩ = some (.slice s.rsP s.rs.length s.rsC) ∧ CostAt wr (w.heap.size + 1) 0 0 0 0 ∧ CostAt wr B 7 F R (wrap64 ((sumTo Ro.weight s.rs k + sumTo Fr.weight y.fs n : Nat) : Int)) ∧ wr.cell? ⟨X, 2, none⟩ = some (.slice y.fsP y.fs.length y.fsC) ∧ wr.cell? ⟨X, 3, none⟩ = some (.slice y.dsP y.ds.length y.dsC) ∧ wr.cell? ⟨X, 4, none⟩ = some (.slice y.psP y.ps.length y.psC)) (fun i _ => y.fs.length - (intOf i).toNat)
      case atStart => exact ⟨0, Nat.zero_le _, rfl, GS.out, ST3.out, ST1.out, by rw [sumTo_zero, Nat.add_zero, HV0.out]; exact ST.out, HXC.out 2 _ rfl, HXC.out 3 _ rfl, HXC.out 4 _ rfl⟩
      case round =>
        obtain ⟨n, hn, rfl, hbl, c3, r1, r2, x2, x3, x4⟩ := hrel
        have hzB : B < wr.heap.size := r2.lt
        have hzX : X < wr.heap.size := cell_lt x2
        by_cases hln : n < y.fs.length
        · obtain ⟨f, hf⟩ : ∃ f, y.fs[n]? = some f := ⟨_, List.getElem?_eq_getElem hln⟩
          obtain ⟨b1, o1, hp1, hb1, he1⟩ := HYI.out.fs.1.elem hf
          have HFI := Lib.hid (HYI.out.fs.2 f (getElem?_mem' hf))
          have HPF := Lib.hid hp1
          have HEF := Lib.hid he1
          have HF := Lib.hid hf
          have m4 := HFI.out.ls.1.bound
          clear he1 hf hp1
          go_wp2_with fail
          obtain ⟨wo, hwo⟩ : ∃ wo : World, wo = wr := ⟨_, rfl⟩
          rw [← hwo] at hbl c3 r1 r2 x2 x3 x4 hzB hzX ⊢
          clear hwo hzB hzX
          go_loopw [8] (fun i wr => ∃ m : Nat, m ≤ f.ls.length ∧ i = .int .i64 m ∧ Grow w wr ∧ wr.cell? ⟨w.heap.size, 3, none⟩ = some (.slice s.rsP s.rs.length s.rsC) ∧ CostAt wr (w.heap.size + 1) 0 0 0 0 ∧ CostAt wr B 7 F R (wrap64 ((sumTo Ro.weight s.rs k + sumTo Fr.weight y.fs n + sumTo (fun l : Loc => l.v.size) f.ls m : Nat) : Int)) ∧ wr.cell? ⟨X, 2, none⟩ = some (.slice y.fsP y.fs.length y.fsC) ∧ wr.cell? ⟨X, 3, none⟩ = some (.slice y.dsP y.ds.length y.dsC) ∧ wr.cell? ⟨X, 4, none⟩ = some (.slice y.psP y.ps.length y.psC)) (fun i _ => f.ls.length - (intOf i).toNat)
          case atStart => exact ⟨0, Nat.zero_le _, rfl, hbl, c3, r1, by rw [sumTo_zero]; exact r2, x2, x3, x4⟩
          case round =>
            clear hbl c3 r1 r2 x2 x3 x4
            obtain ⟨m, hm, rfl, hbl, c3, r1, r2, x2, x3, x4⟩ := hrel
            have hzB : B < wr.heap.size := r2.lt
            have hzX : X < wr.heap.size := cell_lt x2
            obtain ⟨p0, p1, p2, p3⟩ := (HEF.out.grow hbl).fr
            have y2 := x2
            rw [HPF.out] at y2
            by_cases hlm : m < f.ls.length
            · obtain ⟨z, hz⟩ : ∃ z, f.ls[m]? = some z := ⟨_, List.getElem?_eq_getElem hlm⟩
              have hzin := HFI.out.ls.2 z (getElem?_mem' hz)
              obtain ⟨b2, o2, hp2, hb2, he2⟩ := HFI.out.ls.1.elem hz
              obtain ⟨e0, e1, e2, e3, e4, e5⟩ := (he2.grow hbl).loc
              have HZI := Lib.hid hzin
              have HZ := Lib.hid hz
              rw [hp2] at p3
              have X2 := Lib.hid x2
              clear he2 hz hzin hp2 x2
              generalize hV0 : wrap64 ((sumTo Ro.weight s.rs k + sumTo Fr.weight y.fs n + sumTo (fun l : Loc => l.v.size) f.ls m : Nat) : Int) = V0 at r2
              have HV0 := Lib.hid hV0
              clear hV0
              go_wp2_with fail
              have K0 : ∀ d : Later wr, d.w'.cell? ⟨B, 3, none⟩ = some (.int .i64 V0) := fun d => d.h.keep r2.cells.2.2.2
              have J0 : ∀ d : Later wr, d.w'.cell? ⟨X, 2, none⟩ = some (.slice (some ⟨b1, o1, none⟩) y.fs.length y.fsC) := fun d => d.h.keep y2
              have J1 : ∀ d : Later wr, d.w'.cell? ⟨b1, o1 + n * 4 + 3, none⟩ = some (.slice (some ⟨b2, o2, none⟩) f.ls.length f.lsC) := fun d => d.h.keep p3
              have J2 : ∀ d : Later wr, d.w'.cell? ⟨b2, o2 + m * 6 + 1, none⟩ = some (.int .u8 z.v.k) := fun d => d.h.keep e1
              have J3 : ∀ d : Later wr, d.w'.cell? ⟨b2, o2 + m * 6 + 2, none⟩ = some (.int .i64 z.v.n) := fun d => d.h.keep e2
              have J4 : ∀ d : Later wr, d.w'.cell? ⟨b2, o2 + m * 6 + 3, none⟩ = some (.string z.v.t) := fun d => d.h.keep e3
              have J5 : ∀ d : Later wr, d.w'.cell? ⟨b2, o2 + m * 6 + 4, none⟩ = some (.slice z.v.p z.v.l.length z.v.cap) := fun d => d.h.keep e4
              have J6 : ∀ d : Later wr, d.w'.cell? ⟨b2, o2 + m * 6 + 5, none⟩ = some (.bool z.v.c) := fun d => d.h.keep e5
              refine wp_region_later_tail 15 (by kernel_rfl) (by kernel_rfl) ?_
              simp only [List.take_succ_cons, List.take_zero, List.drop_succ_cons, List.drop_zero]
              repeat (go_big_quiet_step ((go_at_call 59; exact Calls.later (HC.out z.v _ (HZI.out.v.grow (hbl.then (Later.h _)))))))
              refine wpQuiet_nil ?_
              rintro _ ⟨d, rfl⟩
              have q0 := K0 d
              have q1 := (r2.grow d.h).free 3
              have q2 : B < d.w'.heap.size := cell_lt q0
              have Hr2 := Lib.hid r2
              clear K0 r2 J0 J1 J2 J3 J4 J5 J6
              go_wp2_with fail
              have x2 := X2.out
              refine ⟨⟨m + 1, by omega, by go_num, (hbl.then d.h).setCell (by simp; omega) _, cell_other (d.h.keep c3) (by simp; omega) _, (r1.grow d.h).other (by simp; omega) _, ?_, cell_other (d.h.keep x2) (by simp; omega) _, cell_other (d.h.keep x3) (by simp; omega) _, cell_other (d.h.keep x4) (by simp; omega) _⟩, by simp [intOf]; omega⟩
              have e := (Hr2.out.grow d.h).set3 (wrap64 (V0 + wrap64 z.v.size))
              have e2 : wrap64 (V0 + wrap64 (z.v.size : Int)) = wrap64 ((sumTo Ro.weight s.rs k + sumTo Fr.weight y.fs n + sumTo (fun l : Loc => l.v.size) f.ls (m + 1) : Nat) : Int) := by
                rw [← HV0.out, wrap64_add_left, wrap64_add_right, sumTo_succ _ HZ.out]
                congr 1
                omega
              rw [← e2]
              exact e
            · obtain rfl : m = f.ls.length := by omega
              have X2 := Lib.hid x2
              clear x2
              go_wp2_with fail
              refine ⟨⟨n + 1, by omega, by go_num, hbl, c3, r1, ?_, X2.out, x3, x4⟩, by simp [intOf]; omega⟩
              have e : sumTo Ro.weight s.rs k + sumTo Fr.weight y.fs (n + 1) = sumTo Ro.weight s.rs k + sumTo Fr.weight y.fs n + sumTo (fun l : Loc => l.v.size) f.ls f.ls.length := by
                rw [sumTo_succ _ HF.out, Fr.weight]; omega
              rw [e]
              exact r2
        · obtain rfl : n = y.fs.length := by omega
          go_wp2_with fail
          go_loopw [9] (fun i wr => ∃ n : Nat, n ≤ y.ds.length ∧ i = .int .i64 n ∧ Grow w wr ∧ wr.cell? ⟨w.heap.size, 3, none⟩ = some (.slice s.rsP s.rs.length s.rsC) ∧ CostAt wr (w.heap.size + 1) 0 0 0 0 ∧ CostAt wr B 7 F R (wrap64 ((sumTo Ro.weight s.rs k + sumTo Fr.weight y.fs y.fs.length + sumTo Df.weight y.ds n : Nat) : Int)) ∧ wr.cell? ⟨X, 2, none⟩ = some (.slice y.fsP y.fs.length y.fsC) ∧ wr.cell? ⟨X, 3, none⟩ = some (.slice y.dsP y.ds.length y.dsC) ∧ wr.cell? ⟨X, 4, none⟩ = some (.slice y.psP y.ps.length y.psC)) (fun i _ => y.ds.length - (intOf i).toNat)
          case atStart => exact ⟨0, Nat.zero_le _, rfl, hbl, c3, r1, by rw [sumTo_zero]; exact r2, x2, x3, x4⟩
          case round =>
            clear hbl c3 r1 r2 x2 x3 x4 hzB hzX
            obtain ⟨n, hn, rfl, hbl, c3, r1, r2, x2, x3, x4⟩ := hrel
            have hzB : B < wr.heap.size := r2.lt
            have hzX : X < wr.heap.size := cell_lt x2
            by_cases hln : n < y.ds.length
            · obtain ⟨f, hf⟩ : ∃ f, y.ds[n]? = some f := ⟨_, List.getElem?_eq_getElem hln⟩
              obtain ⟨b1, o1, hp1, hb1, he1⟩ := HYI.out.ds.1.elem hf
              have HFI := Lib.hid (HYI.out.ds.2 f (getElem?_mem' hf))
              have HF := Lib.hid hf
              obtain ⟨e0, e1, e2, e3, e4, e5, e6, e7⟩ := (he1.grow hbl).df
              have y2 := x3
              rw [hp1] at y2
              have XX := Lib.hid x3
              clear he1 hf hp1 x3
              generalize hV0 : wrap64 ((sumTo Ro.weight s.rs k + sumTo Fr.weight y.fs y.fs.length + sumTo Df.weight y.ds n : Nat) : Int) = V0 at r2
              have HV0 := Lib.hid hV0
              clear hV0
              by_cases ht : f.has = true
              · have HT := Lib.hid ht
                have t5 : f.has = true := ht
                clear ht
                have HWT := Lib.hid (show Df.weight f = f.arg.size from by unfold Df.weight; rw [if_pos HT.out])
                go_wp2_with fail
                have K0 : ∀ d : Later wr, d.w'.cell? ⟨B, 3, none⟩ = some (.int .i64 V0) := fun d => d.h.keep r2.cells.2.2.2
                have J0 : ∀ d : Later wr, d.w'.cell? ⟨X, 3, none⟩ = some (.slice (some ⟨b1, o1, none⟩) y.ds.length y.dsC) := fun d => d.h.keep y2
                have J1 : ∀ d : Later wr, d.w'.cell? ⟨b1, o1 + n * 8 + 3, none⟩ = some (.int .u8 f.arg.k) := fun d => d.h.keep e3
                have J2 : ∀ d : Later wr, d.w'.cell? ⟨b1, o1 + n * 8 + 4, none⟩ = some (.int .i64 f.arg.n) := fun d => d.h.keep e4
                have J3 : ∀ d : Later wr, d.w'.cell? ⟨b1, o1 + n * 8 + 5, none⟩ = some (.string f.arg.t) := fun d => d.h.keep e5
                have J4 : ∀ d : Later wr, d.w'.cell? ⟨b1, o1 + n * 8 + 6, none⟩ = some (.slice f.arg.p f.arg.l.length f.arg.cap) := fun d => d.h.keep e6
                have J5 : ∀ d : Later wr, d.w'.cell? ⟨b1, o1 + n * 8 + 7, none⟩ = some (.bool f.arg.c) := fun d => d.h.keep e7
                refine wp_region_later_tail 11 (by kernel_rfl) (by kernel_rfl) ?_
                simp only [List.take_succ_cons, List.take_zero, List.drop_succ_cons, List.drop_zero]
                repeat (go_big_quiet_step ((go_at_call 59; exact Calls.later (HC.out f.arg _ (HFI.out.arg.grow (hbl.then (Later.h _)))))))
                refine wpQuiet_nil ?_
                rintro _ ⟨d, rfl⟩
                have q0 := K0 d
                have q1 := (r2.grow d.h).free 3
                have q2 : B < d.w'.heap.size := cell_lt q0
                have Hr2 := Lib.hid r2
                clear K0 r2 J0 J1 J2 J3 J4 J5
                go_wp2_with fail
                have x3 := XX.out
                refine ⟨⟨n + 1, by omega, by go_num, (hbl.then d.h).setCell (by simp; omega) _, cell_other (d.h.keep c3) (by simp; omega) _, (r1.grow d.h).other (by simp; omega) _, ?_, cell_other (d.h.keep x2) (by simp; omega) _, cell_other (d.h.keep x3) (by simp; omega) _, cell_other (d.h.keep x4) (by simp; omega) _⟩, by simp [intOf]; omega⟩
                have e := (Hr2.out.grow d.h).set3 (wrap64 (V0 + wrap64 f.arg.size))
                have e2 : wrap64 (V0 + wrap64 (f.arg.size : Int)) = wrap64 ((sumTo Ro.weight s.rs k + sumTo Fr.weight y.fs y.fs.length + sumTo Df.weight y.ds (n + 1) : Nat) : Int) := by
                  rw [← HV0.out, wrap64_add_left, wrap64_add_right, sumTo_succ _ HF.out, show Df.weight f = f.arg.size from HWT.out]
                  congr 1
                  omega
                rw [← e2]
                exact e
              · have HT := Lib.hid ht
                have t5 : f.has = false := by simpa using ht
                clear ht
                have HWT := Lib.hid (show Df.weight f = 0 from by unfold Df.weight; rw [if_neg HT.out])
                have x3 := XX.out
                go_wp2_with fail
                refine ⟨⟨n + 1, by omega, by go_num, hbl, c3, r1, ?_, x2, x3, x4⟩, by simp [intOf]; omega⟩
                have e : sumTo Ro.weight s.rs k + sumTo Fr.weight y.fs y.fs.length + sumTo Df.weight y.ds (n + 1) = sumTo Ro.weight s.rs k + sumTo Fr.weight y.fs y.fs.length + sumTo Df.weight y.ds n := by rw [sumTo_succ _ HF.out, HWT.out]; omega
                rw [e, HV0.out]
                exact r2
            · obtain rfl : n = y.ds.length := by omega
              go_wp2_with fail
              go_loopw [10] (fun i wr => ∃ n : Nat, n ≤ y.ps.length ∧ i = .int .i64 n ∧ Grow w wr ∧ wr.cell? ⟨w.heap.size, 3, none⟩ = some (.slice s.rsP s.rs.length s.rsC) ∧ CostAt wr (w.heap.size + 1) 0 0 0 0 ∧ CostAt wr B 7 F R (wrap64 ((sumTo Ro.weight s.rs k + sumTo Fr.weight y.fs y.fs.length + sumTo Df.weight y.ds y.ds.length + sumTo Pn.weight y.ps n : Nat) : Int)) ∧ wr.cell? ⟨X, 2, none⟩ = some (.slice y.fsP y.fs.length y.fsC) ∧ wr.cell? ⟨X, 3, none⟩ = some (.slice y.dsP y.ds.length y.dsC) ∧ wr.cell? ⟨X, 4, none⟩ = some (.slice y.psP y.ps.length y.psC)) (fun i _ => y.ps.length - (intOf i).toNat)
              case atStart => exact ⟨0, Nat.zero_le _, rfl, hbl, c3, r1, by rw [sumTo_zero]; exact r2, x2, x3, x4⟩
              case round =>
                clear hbl c3 r1 r2 x2 x3 x4 hzB hzX
                obtain ⟨n, hn, rfl, hbl, c3, r1, r2, x2, x3, x4⟩ := hrel
                have hzB : B < wr.heap.size := r2.lt
                have hzX : X < wr.heap.size := cell_lt x2
                by_cases hln : n < y.ps.length
                · obtain ⟨f, hf⟩ : ∃ f, y.ps[n]? = some f := ⟨_, List.getElem?_eq_getElem hln⟩
                  obtain ⟨b1, o1, hp1, hb1, he1⟩ := HYI.out.ps.1.elem hf
                  have HFI := Lib.hid (HYI.out.ps.2 f (getElem?_mem' hf))
                  have HF := Lib.hid hf
                  obtain ⟨e0, e1, e2, e3, e4, e5, e6⟩ := (he1.grow hbl).pn
                  have y2 := x4
                  rw [hp1] at y2
                  have XX := Lib.hid x4
                  clear he1 hf hp1 x4
                  generalize hV0 : wrap64 ((sumTo Ro.weight s.rs k + sumTo Fr.weight y.fs y.fs.length + sumTo Df.weight y.ds y.ds.length + sumTo Pn.weight y.ps n : Nat) : Int) = V0 at r2
                  have HV0 := Lib.hid hV0
                  clear hV0
                  by_cases ht : ¬ f.tag = 0
                  · have HT := Lib.hid ht
                    have t5 : (f.tag != 0) = true := by rw [bne_iff_ne]; exact ht
                    clear ht
                    have HWT := Lib.hid (show Pn.weight f = f.v.size from by unfold Pn.weight; rw [if_neg HT.out])
                    go_wp2_with fail
                    have K0 : ∀ d : Later wr, d.w'.cell? ⟨B, 3, none⟩ = some (.int .i64 V0) := fun d => d.h.keep r2.cells.2.2.2
                    have J0 : ∀ d : Later wr, d.w'.cell? ⟨X, 4, none⟩ = some (.slice (some ⟨b1, o1, none⟩) y.ps.length y.psC) := fun d => d.h.keep y2
                    have J1 : ∀ d : Later wr, d.w'.cell? ⟨b1, o1 + n * 7 + 1, none⟩ = some (.int .u8 f.v.k) := fun d => d.h.keep e1
                    have J2 : ∀ d : Later wr, d.w'.cell? ⟨b1, o1 + n * 7 + 2, none⟩ = some (.int .i64 f.v.n) := fun d => d.h.keep e2
                    have J3 : ∀ d : Later wr, d.w'.cell? ⟨b1, o1 + n * 7 + 3, none⟩ = some (.string f.v.t) := fun d => d.h.keep e3
                    have J4 : ∀ d : Later wr, d.w'.cell? ⟨b1, o1 + n * 7 + 4, none⟩ = some (.slice f.v.p f.v.l.length f.v.cap) := fun d => d.h.keep e4
                    have J5 : ∀ d : Later wr, d.w'.cell? ⟨b1, o1 + n * 7 + 5, none⟩ = some (.bool f.v.c) := fun d => d.h.keep e5
                    refine wp_region_later_tail 11 (by kernel_rfl) (by kernel_rfl) ?_
                    simp only [List.take_succ_cons, List.take_zero, List.drop_succ_cons, List.drop_zero]
                    repeat (go_big_quiet_step ((go_at_call 59; exact Calls.later (HC.out f.v _ (HFI.out.v.grow (hbl.then (Later.h _)))))))
                    refine wpQuiet_nil ?_
                    rintro _ ⟨d, rfl⟩
                    have q0 := K0 d
                    have q1 := (r2.grow d.h).free 3
                    have q2 : B < d.w'.heap.size := cell_lt q0
                    have Hr2 := Lib.hid r2
                    clear K0 r2 J0 J1 J2 J3 J4 J5
                    go_wp2_with fail
                    have x4 := XX.out
                    refine ⟨⟨n + 1, by omega, by go_num, (hbl.then d.h).setCell (by simp; omega) _, cell_other (d.h.keep c3) (by simp; omega) _, (r1.grow d.h).other (by simp; omega) _, ?_, cell_other (d.h.keep x2) (by simp; omega) _, cell_other (d.h.keep x3) (by simp; omega) _, cell_other (d.h.keep x4) (by simp; omega) _⟩, by simp [intOf]; omega⟩
                    have e := (Hr2.out.grow d.h).set3 (wrap64 (V0 + wrap64 f.v.size))
                    have e2 : wrap64 (V0 + wrap64 (f.v.size : Int)) = wrap64 ((sumTo Ro.weight s.rs k + sumTo Fr.weight y.fs y.fs.length + sumTo Df.weight y.ds y.ds.length + sumTo Pn.weight y.ps (n + 1) : Nat) : Int) := by
                      rw [← HV0.out, wrap64_add_left, wrap64_add_right, sumTo_succ _ HF.out, show Pn.weight f = f.v.size from HWT.out]
                      congr 1
                      omega
                    rw [← e2]
                    exact e
                  · have HT := Lib.hid ht
                    have t5 : (f.tag != 0) = false := by simpa using ht
                    clear ht
                    have HWT := Lib.hid (show Pn.weight f = 0 from by unfold Pn.weight; rw [if_pos (Classical.not_not.1 HT.out)])
                    have x4 := XX.out
                    go_wp2_with fail
                    refine ⟨⟨n + 1, by omega, by go_num, hbl, c3, r1, ?_, x2, x3, x4⟩, by simp [intOf]; omega⟩
                    have e : sumTo Ro.weight s.rs k + sumTo Fr.weight y.fs y.fs.length + sumTo Df.weight y.ds y.ds.length + sumTo Pn.weight y.ps (n + 1) = sumTo Ro.weight s.rs k + sumTo Fr.weight y.fs y.fs.length + sumTo Df.weight y.ds y.ds.length + sumTo Pn.weight y.ps n := by rw [sumTo_succ _ HF.out, HWT.out]; omega
                    rw [e, HV0.out]
                    exact r2
                · obtain rfl : n = y.ps.length := by omega
                  go_wp2_with fail
                  refine ⟨⟨k + 1, by omega, by go_num, hbl, c3, r1, ?_⟩, by simp [intOf]; omega⟩
                  have e : sumTo Ro.weight s.rs (k + 1) = sumTo Ro.weight s.rs k + sumTo Fr.weight y.fs y.fs.length + sumTo Df.weight y.ds y.ds.length + sumTo Pn.weight y.ps y.ps.length := by rw [sumTo_succ _ HY.out, Ro.weight]; omega
                  rw [← HFk.out, ← HRk.out, e]
                  exact r2
    · obtain rfl : k = s.rs.length := by omega
      generalize hV0 : wrap64 ((sumTo Ro.weight s.rs s.rs.length : Nat) : Int) = V0 at *
      obtain ⟨d0, d1, d2, d3⟩ := r1.cells
      obtain ⟨f0, f1, f2, f3⟩ := r2.cells
      have u0 := r1.free 0
      have u1 := r1.free 1
      have u2 := r1.free 2
      have u3 := r1.free 3
      have R1 := Lib.hid r1
      have HY2 := Lib.hid (fun w' g => HYES.out w' HU.out g)
      generalize sumTo Ro.frames s.rs s.rs.length = F0 at *
      generalize sumTo Ro.records s.rs s.rs.length = R0 at *
      clear r1 r2 hV0
      go_wp2_with fail
      obtain ⟨x0, x1, x2, x3⟩ := ((((R1.out.set0 7).set1 F0).set2 R0).set3 V0).cells
      refine bodyPost_ret (v := .tuple #[.agg #[.int .i64 7, .int .i64 F0, .int .i64 R0, .int .i64 V0], .int .i64 0]) (by simp [results, Try.results29, go_sem, x0, x1, x2, x3]) rfl ?_
      exact HY2.out _ ((((hbl.setCell (p := ⟨w.heap.size + 1, 0, none⟩) (by simp) (.int .i64 7)).setCell (p := ⟨w.heap.size + 1, 1, none⟩) (by simp) (.int .i64 F0)).setCell (p := ⟨w.heap.size + 1, 2, none⟩) (by simp) (.int .i64 R0)).setCell (p := ⟨w.heap.size + 1, 3, none⟩) (by simp) (.int .i64 V0))
end Go.Proofs.Ytflbiiflbehleaa
