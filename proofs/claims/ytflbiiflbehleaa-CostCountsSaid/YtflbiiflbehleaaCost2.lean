import Derived.Test.YtflbiiflbehleaaCost
namespace Go.Proofs.Ytflbiiflbehleaa
open Go.RowKit
/-- The first k frames have few locals. -/
def Narrow (fs : List Fr) (k : Nat) : Prop := ∀ (i : Nat) (f : Fr), i < k → fs[i]? = some f → f.ls.length ≤ 16
theorem Narrow.succ {fs : List Fr} {k : Nat} (h : Narrow fs k) {y : Fr} (hy : fs[k]? = some y) (h4 : y.ls.length ≤ 16) : Narrow fs (k + 1) := by
  intro i f hi hf
  by_cases e : i = k
  · subst e; rw [hy] at hf; cases hf; exact h4
  · exact h i f (by omega) hf
theorem Narrow.all {fs : List Fr} (h : Narrow fs fs.length) : ∀ f, f ∈ fs → f.ls.length ≤ 16 := by
  intro f hf
  obtain ⟨i, hi, rfl⟩ := List.getElem_of_mem hf
  exact h i _ hi (List.getElem?_eq_getElem hi)
set_option maxRecDepth 100000 in
set_option maxHeartbeats 4000000 in
theorem cost_routine_wide (x : Ro) (w : World) (hx : x.In w) (h1 : x.fs.length ≤ 170) (h2 : x.ds.length ≤ 410) (h3 : x.ps.length ≤ 410) (h4 : ¬ ∀ f, f ∈ x.fs → f.ls.length ≤ 16) :
    Calls Try.prog 57 #[x.agg] w (Unpriced w) := by
  obtain ⟨status, key, fsP, fsC, fs, dsP, dsC, ds, psP, psC, ps⟩ := x
  have HX := Lib.hid hx
  have H4 := Lib.hid h4
  simp only [Ro.agg] at *
  clear hx h4
  have HC := Lib.hid (show ∀ (v : V) w1, v.In w1 → Calls Try.prog 73 #[v.agg] w1 fun e w' => e = .returned (.int .i64 (wrap64 v.size)) ∧ Grow w1 w' from fun v w1 h => locals_Weight v w1 h)
  have t1 : decide ((170 : Int) < (fs.length : Int)) = false := by simp; omega
  have t2 : decide ((410 : Int) < (ds.length : Int)) = false := by simp; omega
  have t3 : decide ((410 : Int) < (ps.length : Int)) = false := by simp; omega
  go_enter Try.func57, Try.ntmps57
  go_wp2_with fail
  go_loopw [44] (fun i wr => ∃ k : Nat, k ≤ fs.length ∧ Narrow fs k ∧ i = .int .i64 k ∧ Grow w wr ∧ wr.cell? ⟨w.heap.size, 3, none⟩ = some (.slice dsP ds.length dsC) ∧ wr.cell? ⟨w.heap.size, 4, none⟩ = some (.slice psP ps.length psC) ∧ CostAt wr (w.heap.size + 1) 0 0 0 0 ∧ CostAt wr (w.heap.size + 1 + 1) 0 fs.length (ds.length + ps.length : Int) (wrap64 ((sumTo Fr.weight fs k : Nat) : Int))) (fun i _ => fs.length - (intOf i).toNat)
  case atStart =>
    refine ⟨0, Nat.zero_le _, fun i f h => absurd h (by omega), rfl, (((Below.refl _ _).alloc' _).alloc' _).alloc' _, by go_simp, by go_simp, CostAt.grow (alloc_at (n := w.heap.size + 1) (w.alloc _) _ (by simp)) ((Below.refl _ _).alloc' _), ?_⟩
    rw [sumTo_zero, show wrap64 ((0 : Nat) : Int) = 0 from wrap64_small (by omega) (by omega)]
    exact alloc_at (n := w.heap.size + 1 + 1) ((w.alloc _).alloc _) _ (by simp)
  case round =>
    obtain ⟨k, hk, hnar, rfl, hbl, c3, c4, r1, r2⟩ := hrel
    have HNA := Lib.hid hnar
    clear hnar
    by_cases hlt : k < fs.length
    · obtain ⟨y, hy⟩ : ∃ y, fs[k]? = some y := ⟨_, List.getElem?_eq_getElem hlt⟩
      by_cases hy4 : y.ls.length ≤ 16
      case neg =>
        have hyin := HX.out.fs.2 y (getElem?_mem' hy)
        obtain ⟨b, o, hp, hb, he⟩ := HX.out.fs.1.elem hy
        simp only at hp
        subst hp
        obtain ⟨yf, yi, ym, lsP, lsC, ls⟩ := y
        obtain ⟨a0, a1, a2, a3⟩ := (he.grow hbl).fr
        simp only at a0 a1 a2 a3 hy4
        have m5 := hyin.ls.1.bound
        simp only at m5
        have hz0 : w.heap.size + 1 < wr.heap.size := r1.lt
        have hz1 : w.heap.size + 1 + 1 < wr.heap.size := r2.lt
        have hbz : b < wr.heap.size := cell_lt a0
        have t4 : decide ((16 : Int) < (ls.length : Int)) = true := by simp; omega
        obtain ⟨d0, d1, d2, d3⟩ := r1.cells
        have u0 := r1.free 0
        have u1 := r1.free 1
        have u2 := r1.free 2
        have u3 := r1.free 3
        generalize hV0 : wrap64 ((sumTo Fr.weight fs k : Nat) : Int) = V0 at r2
        obtain ⟨f0, f1, f2, f3⟩ := r2.cells
        have HR1 := Lib.hid r1
        clear he hy hyin hV0 r1 r2
        go_wp2_with fail
        obtain ⟨x0, x1, x2, x3⟩ := ((((HR1.out.set0 0).set1 fs.length).set2 (ds.length + ps.length : Int)).set3 V0).grow ((Below.refl _ _).alloc' (.cells #[.int .i64 yf, .int .i64 yi, .int .u64 ym, .slice lsP ls.length lsC] 74)) |>.cells
        exact bodyPost_ret (v := .tuple #[.agg #[.int .i64 0, .int .i64 fs.length, .int .i64 (ds.length + ps.length : Int), .int .i64 V0], .bool false]) (by simp [results, Try.results57, go_sem, x0, x1, x2, x3]) rfl ⟨_, _, _, _, rfl, ((((hbl.setCell (by simp) _).setCell (by simp) _).setCell (by simp) _).setCell (by simp) _).alloc' _⟩
      have hyin := HX.out.fs.2 y (getElem?_mem' hy)
      obtain ⟨b, o, hp, hb, he⟩ := HX.out.fs.1.elem hy
      simp only at hp
      subst hp
      have HYI := Lib.hid hyin
      have HY := Lib.hid hy
      obtain ⟨yf, yi, ym, lsP, lsC, ls⟩ := y
      obtain ⟨a0, a1, a2, a3⟩ := (he.grow hbl).fr
      simp only at a0 a1 a2 a3 hy4
      have hz1 : w.heap.size + 1 + 1 < wr.heap.size := r2.lt
      have hbz : b < wr.heap.size := cell_lt a0
      have t4 : decide ((16 : Int) < (ls.length : Int)) = false := by simp; omega
      clear he hy hyin
      go_wp2_with fail
      obtain ⟨wo, hwo⟩ : ∃ wo : World, wo = wr := ⟨_, rfl⟩
      rw [← hwo] at hbl c3 c4 r1 r2 a0 a1 a2 a3 hz1 hbz ⊢
      clear hwo
      have HR2 := Lib.hid r2
      clear r2 a0 a1 a2 a3
      go_loopw [56] (fun i wr => ∃ n : Nat, n ≤ ls.length ∧ i = .int .i64 n ∧ Grow w wr ∧ wr.cell? ⟨w.heap.size, 3, none⟩ = some (.slice dsP ds.length dsC) ∧ wr.cell? ⟨w.heap.size, 4, none⟩ = some (.slice psP ps.length psC) ∧ CostAt wr (w.heap.size + 1) 0 0 0 0 ∧ CostAt wr (w.heap.size + 1 + 1) 0 fs.length (ds.length + ps.length : Int) (wrap64 ((sumTo Fr.weight fs k + sumTo (fun l : Loc => l.v.size) ls n : Nat) : Int))) (fun i _ => ls.length - (intOf i).toNat)
      case atStart =>
        have ga : Grow wo (wo.alloc (.cells #[.int .i64 yf, .int .i64 yi, .int .u64 ym, .slice lsP ls.length lsC] 74)) := (Below.refl _ _).alloc' _
        refine ⟨0, Nat.zero_le _, rfl, hbl.then ga, ga.keep c3, ga.keep c4, r1.grow ga, ?_⟩
        rw [sumTo_zero]
        exact HR2.out.grow ga
      case round =>
        clear hbl c3 c4 r1 hz1 hbz
        obtain ⟨n, hn, rfl, hbl, c3, c4, r1, r2⟩ := hrel
        by_cases hln : n < ls.length
        · obtain ⟨z, hz⟩ : ∃ z, ls[n]? = some z := ⟨_, List.getElem?_eq_getElem hln⟩
          have hzin := HYI.out.ls.2 z (getElem?_mem' hz)
          obtain ⟨b', o', hp', hb', he'⟩ := HYI.out.ls.1.elem hz
          simp only at hp'
          subst hp'
          obtain ⟨e0, e1, e2, e3, e4, e5⟩ := (he'.grow hbl).loc
          have HZI := Lib.hid hzin
          have HZ := Lib.hid hz
          have hz1 : w.heap.size + 1 + 1 < wr.heap.size := r2.lt
          have hbz : b' < wr.heap.size := cell_lt e0
          clear he' hz hzin
          generalize hV0 : wrap64 ((sumTo Fr.weight fs k + sumTo (fun l : Loc => l.v.size) ls n : Nat) : Int) = V0 at r2
          have HV0 := Lib.hid hV0
          clear hV0
          have ga : Grow wr (wr.alloc (.cells #[.int .i64 z.slot, .int .u8 z.v.k, .int .i64 z.v.n, .string z.v.t, .slice z.v.p z.v.l.length z.v.cap, .bool z.v.c] 92)) := (Below.refl _ _).alloc' _
          have GA := Lib.hid ga
          clear ga
          go_wp2_with fail
          have K0 : ∀ d : Later (wr.alloc (.cells #[.int .i64 z.slot, .int .u8 z.v.k, .int .i64 z.v.n, .string z.v.t, .slice z.v.p z.v.l.length z.v.cap, .bool z.v.c] 92)), d.w'.cell? ⟨w.heap.size + 1 + 1, 3, none⟩ = some (.int .i64 V0) := fun d => d.h.keep ((GA.out).keep r2.cells.2.2.2)
          have K1 : ∀ d : Later (wr.alloc (.cells #[.int .i64 z.slot, .int .u8 z.v.k, .int .i64 z.v.n, .string z.v.t, .slice z.v.p z.v.l.length z.v.cap, .bool z.v.c] 92)), d.w'.cell? ⟨wr.heap.size, 1, none⟩ = some (.int .u8 z.v.k) := fun d => d.h.keep (by go_simp)
          have K2 : ∀ d : Later (wr.alloc (.cells #[.int .i64 z.slot, .int .u8 z.v.k, .int .i64 z.v.n, .string z.v.t, .slice z.v.p z.v.l.length z.v.cap, .bool z.v.c] 92)), d.w'.cell? ⟨wr.heap.size, 2, none⟩ = some (.int .i64 z.v.n) := fun d => d.h.keep (by go_simp)
          have K3 : ∀ d : Later (wr.alloc (.cells #[.int .i64 z.slot, .int .u8 z.v.k, .int .i64 z.v.n, .string z.v.t, .slice z.v.p z.v.l.length z.v.cap, .bool z.v.c] 92)), d.w'.cell? ⟨wr.heap.size, 3, none⟩ = some (.string z.v.t) := fun d => d.h.keep (by go_simp)
          have K4 : ∀ d : Later (wr.alloc (.cells #[.int .i64 z.slot, .int .u8 z.v.k, .int .i64 z.v.n, .string z.v.t, .slice z.v.p z.v.l.length z.v.cap, .bool z.v.c] 92)), d.w'.cell? ⟨wr.heap.size, 4, none⟩ = some (.slice z.v.p z.v.l.length z.v.cap) := fun d => d.h.keep (by go_simp)
          have K5 : ∀ d : Later (wr.alloc (.cells #[.int .i64 z.slot, .int .u8 z.v.k, .int .i64 z.v.n, .string z.v.t, .slice z.v.p z.v.l.length z.v.cap, .bool z.v.c] 92)), d.w'.cell? ⟨wr.heap.size, 5, none⟩ = some (.bool z.v.c) := fun d => d.h.keep (by go_simp)
          refine wp_region_later_tail 7 (by kernel_rfl) (by kernel_rfl) ?_
          simp only [List.take_succ_cons, List.take_zero, List.drop_succ_cons, List.drop_zero]
          repeat (go_big_quiet_step ((go_at_call 73; exact Calls.later (HC.out z.v _ (HZI.out.v.grow ((hbl.then GA.out).then (Later.h _)))))))
          refine wpQuiet_nil ?_
          rintro _ ⟨d, rfl⟩
          have q0 := K0 d
          have q1 := ((r2.grow (GA.out)).grow d.h).free 3
          have q2 : w.heap.size + 1 + 1 < d.w'.heap.size := cell_lt q0
          have Hr2 := Lib.hid r2
          clear K0 K1 K2 K3 K4 K5 r2
          go_wp2_with fail
          have GD : Grow wr d.w' := GA.out.then d.h
          refine ⟨⟨n + 1, by omega, by go_num, (hbl.then GD).setCell (by simp; omega) _, cell_other (GD.keep c3) (by simp; omega) _, cell_other (GD.keep c4) (by simp; omega) _, (r1.grow GD).other (by simp) _, ?_⟩, by simp [intOf]; omega⟩
          have e := (Hr2.out.grow GD).set3 (wrap64 (V0 + wrap64 z.v.size))
          have e2 : wrap64 (V0 + wrap64 (z.v.size : Int)) = wrap64 ((sumTo Fr.weight fs k + sumTo (fun l : Loc => l.v.size) ls (n + 1) : Nat) : Int) := by
            rw [← HV0.out, wrap64_add_left, wrap64_add_right, sumTo_succ _ HZ.out]
            congr 1
            omega
          rw [← e2]
          exact e
        · obtain rfl : n = ls.length := by omega
          go_wp2_with fail
          refine ⟨⟨k + 1, by omega, HNA.out.succ HY.out hy4, by go_num, hbl, c3, c4, r1, ?_⟩, by simp [intOf]; omega⟩
          rw [sumTo_succ _ HY.out]
          exact r2
    · obtain rfl : k = fs.length := by omega
      exact absurd (fun f hf => HNA.out.all f hf) H4.out
set_option maxRecDepth 100000 in
set_option maxHeartbeats 1000000 in
theorem cost_routine_many (x : Ro) (w : World) (hx : x.In w) (h : ¬ (x.fs.length ≤ 170 ∧ x.ds.length ≤ 410 ∧ x.ps.length ≤ 410)) :
    Calls Try.prog 57 #[x.agg] w (Unpriced w) := by
  have m1 := hx.fs.1.bound
  have m2 := hx.ds.1.bound
  have m3 := hx.ps.1.bound
  clear hx
  generalize hR : wrap64 ((x.ds.length : Int) + (x.ps.length : Int)) = R
  have HR := Lib.hid hR
  clear hR
  have key : ∀ b1 b2 b3 : Bool, decide ((170 : Int) < (x.fs.length : Int)) = b1 → decide ((410 : Int) < (x.ds.length : Int)) = b2 → decide ((410 : Int) < (x.ps.length : Int)) = b3 → (b1 || b2 || b3) = true → Calls Try.prog 57 #[x.agg] w (Unpriced w) := by
    intro b1 b2 b3 t1 t2 t3 hb
    rcases b1 with _ | _ <;> rcases b2 with _ | _ <;> rcases b3 with _ | _ <;> simp at hb
    all_goals
      go_enter Try.func57, Try.ntmps57
      go_wp2_with fail
      refine bodyPost_ret (v := .tuple #[.agg #[.int .i64 0, .int .i64 x.fs.length, .int .i64 (wrap64 ((x.ds.length : Int) + (x.ps.length : Int))), .int .i64 0], .bool false]) (by simp [results, Try.results57, go_sem]) rfl ⟨_, _, _, _, rfl, ?_⟩
      exact (((Below.refl _ _).alloc' _).alloc' _).alloc' _
  refine key _ _ _ rfl rfl rfl ?_
  simp only [Bool.or_eq_true, decide_eq_true_eq]
  omega
end Go.Proofs.Ytflbiiflbehleaa
