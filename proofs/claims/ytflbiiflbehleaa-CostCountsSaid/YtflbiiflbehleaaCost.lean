import Derived.Test.YtflbiiflbehleaaWeight2
import Derived.Test.YtflbiiflbehleaaTail
namespace Go.Proofs.Ytflbiiflbehleaa
open Go.RowKit
/-- A block that holds a cost. -/
def CostAt (w : World) (b : Nat) (s f r v : Int) : Prop := w.heap[b]? = some (.cells #[.int .i64 s, .int .i64 f, .int .i64 r, .int .i64 v] 51 (0, 0))
theorem CostAt.cells {w : World} {b : Nat} {s f r v : Int} (h : CostAt w b s f r v) : w.cell? ⟨b, 0, none⟩ = some (.int .i64 s) ∧ w.cell? ⟨b, 1, none⟩ = some (.int .i64 f) ∧ w.cell? ⟨b, 2, none⟩ = some (.int .i64 r) ∧ w.cell? ⟨b, 3, none⟩ = some (.int .i64 v) := by
  unfold CostAt at h
  simp only [World.cell?, h]
  exact ⟨rfl, rfl, rfl, rfl⟩
theorem CostAt.free {w : World} {b : Nat} {s f r v : Int} (h : CostAt w b s f r v) (j : Nat) : w.frozen? ⟨b, j, none⟩ = false := by
  unfold CostAt at h
  simp only [World.frozen?, h]
  simp
theorem CostAt.lt {w : World} {b : Nat} {s f r v : Int} (h : CostAt w b s f r v) : b < w.heap.size := cell_lt h.cells.1
theorem CostAt.grow {w w' : World} {b : Nat} {s f r v : Int} (h : CostAt w b s f r v) (g : Grow w w') : CostAt w' b s f r v := by
  unfold CostAt at *
  rw [g.block b (Array.getElem?_eq_some_iff.1 h).1]; exact h
theorem CostAt.set0 {w : World} {b : Nat} {s f r v : Int} (h : CostAt w b s f r v) (x : Int) : CostAt (w.setCell ⟨b, 0, none⟩ (.int .i64 x)) b x f r v := by
  unfold CostAt at *; simp only [World.setCell, Array.getElem?_modify, h]; simp
theorem CostAt.set1 {w : World} {b : Nat} {s f r v : Int} (h : CostAt w b s f r v) (x : Int) : CostAt (w.setCell ⟨b, 1, none⟩ (.int .i64 x)) b s x r v := by
  unfold CostAt at *; simp only [World.setCell, Array.getElem?_modify, h]; simp
theorem CostAt.set2 {w : World} {b : Nat} {s f r v : Int} (h : CostAt w b s f r v) (x : Int) : CostAt (w.setCell ⟨b, 2, none⟩ (.int .i64 x)) b s f x v := by
  unfold CostAt at *; simp only [World.setCell, Array.getElem?_modify, h]; simp
theorem CostAt.set3 {w : World} {b : Nat} {s f r v : Int} (h : CostAt w b s f r v) (x : Int) : CostAt (w.setCell ⟨b, 3, none⟩ (.int .i64 x)) b s f r x := by
  unfold CostAt at *; simp only [World.setCell, Array.getElem?_modify, h]; simp
theorem CostAt.other {w : World} {b : Nat} {s f r v : Int} (h : CostAt w b s f r v) {a : Addr} (ha : a.block ≠ b) (u : Value) : CostAt (w.setCell a u) b s f r v := by
  unfold CostAt at *
  rw [Below.heap_setCell _ _ _ _ (Ne.symm ha)]; exact h
theorem cell_other {w : World} {p a : Addr} {v : Value} (h : w.cell? p = some v) (ha : a.block ≠ p.block) (u : Value) : (w.setCell a u).cell? p = some v := by
  rw [World.cell?_of_block (w := w) (Below.heap_setCell _ _ _ _ (Ne.symm ha))]; exact h

/-- The sums over the first so many. -/
def sumTo {α : Type} (f : α → Nat) (l : List α) (k : Nat) : Nat := ((l.take k).map f).sum
theorem sumTo_zero {α : Type} (f : α → Nat) (l : List α) : sumTo f l 0 = 0 := by simp [sumTo]
theorem sumTo_succ {α : Type} (f : α → Nat) {l : List α} {k : Nat} {x : α} (h : l[k]? = some x) : sumTo f l (k + 1) = sumTo f l k + f x := by
  unfold sumTo
  rw [List.take_add_one, h]
  simp
def Fr.weight (x : Fr) : Nat := sumTo (fun l : Loc => l.v.size) x.ls x.ls.length
def Df.weight (x : Df) : Nat := if x.has then x.arg.size else 0
def Pn.weight (x : Pn) : Nat := if x.tag = 0 then 0 else x.v.size
def Ro.weight (x : Ro) : Nat := sumTo Fr.weight x.fs x.fs.length + sumTo Df.weight x.ds x.ds.length + sumTo Pn.weight x.ps x.ps.length
/-- A goroutine of fair size. -/
def Ro.fair (x : Ro) : Prop := x.fs.length ≤ 170 ∧ x.ds.length ≤ 410 ∧ x.ps.length ≤ 410 ∧ ∀ f, f ∈ x.fs → f.ls.length ≤ 16
/-- What cost.routine hands back of a goroutine of fair size: its cost, and true. -/
def Priced (x : Ro) (w : World) (e : Ending) (w' : World) : Prop :=
  e = .returned (.tuple #[.agg #[.int .i64 0, .int .i64 x.fs.length, .int .i64 (x.ds.length + x.ps.length : Int), .int .i64 (wrap64 x.weight)], .bool true]) ∧ Grow w w'
/-- .. of one that is not. -/
def Unpriced (w : World) (e : Ending) (w' : World) : Prop :=
  ∃ a b c d : Int, e = .returned (.tuple #[.agg #[.int .i64 a, .int .i64 b, .int .i64 c, .int .i64 d], .bool false]) ∧ Grow w w'
set_option maxRecDepth 100000 in
set_option maxHeartbeats 4000000 in
theorem cost_routine_fair (x : Ro) (w : World) (hx : x.In w) (h1 : x.fs.length ≤ 170) (h2 : x.ds.length ≤ 410) (h3 : x.ps.length ≤ 410) (h4 : ∀ f, f ∈ x.fs → f.ls.length ≤ 16) :
    Calls Try.prog 57 #[x.agg] w (Priced x w) := by
  obtain ⟨status, key, fsP, fsC, fs, dsP, dsC, ds, psP, psC, ps⟩ := x
  have HX := Lib.hid hx
  have H4 := Lib.hid h4
  simp only [Ro.agg] at *
  clear hx h4
  have HC := Lib.hid (show ∀ (v : V) w1, v.In w1 → Calls Try.prog 73 #[v.agg] w1 fun e w' => e = .returned (.int .i64 (wrap64 v.size)) ∧ Grow w1 w' from fun v w1 h => locals_Weight v w1 h)
  have t1 : decide ((170 : Int) < (fs.length : Int)) = false := by simp; omega
  have t2 : decide ((410 : Int) < (ds.length : Int)) = false := by simp; omega
  have t3 : decide ((410 : Int) < (ps.length : Int)) = false := by simp; omega
  go_enter Try.func57, Try.ntmps57
  go_wp2_with fail
  go_loopw [44] (fun i wr => ∃ k : Nat, k ≤ fs.length ∧ i = .int .i64 k ∧ Grow w wr ∧ wr.cell? ⟨w.heap.size, 3, none⟩ = some (.slice dsP ds.length dsC) ∧ wr.cell? ⟨w.heap.size, 4, none⟩ = some (.slice psP ps.length psC) ∧ CostAt wr (w.heap.size + 1) 0 0 0 0 ∧ CostAt wr (w.heap.size + 1 + 1) 0 fs.length (ds.length + ps.length : Int) (wrap64 ((sumTo Fr.weight fs k : Nat) : Int))) (fun i _ => fs.length - (intOf i).toNat)
  case atStart =>
    refine ⟨0, Nat.zero_le _, rfl, (((Below.refl _ _).alloc' _).alloc' _).alloc' _, by go_simp, by go_simp, CostAt.grow (alloc_at (n := w.heap.size + 1) (w.alloc _) _ (by simp)) ((Below.refl _ _).alloc' _), ?_⟩
    rw [sumTo_zero, show wrap64 ((0 : Nat) : Int) = 0 from wrap64_small (by omega) (by omega)]
    exact alloc_at (n := w.heap.size + 1 + 1) ((w.alloc _).alloc _) _ (by simp)
  case round =>
    obtain ⟨k, hk, rfl, hbl, c3, c4, r1, r2⟩ := hrel
    by_cases hlt : k < fs.length
    · obtain ⟨y, hy⟩ : ∃ y, fs[k]? = some y := ⟨_, List.getElem?_eq_getElem hlt⟩
      have hy4 := H4.out y (getElem?_mem' hy)
      have hyin := HX.out.fs.2 y (getElem?_mem' hy)
      obtain ⟨b, o, hp, hb, he⟩ := HX.out.fs.1.elem hy
      simp only at hp
      subst hp
      have HYI := Lib.hid hyin
      have HY := Lib.hid hy
      obtain ⟨yf, yi, ym, lsP, lsC, ls⟩ := y
      obtain ⟨a0, a1, a2, a3⟩ := (he.grow hbl).fr
      simp only at a0 a1 a2 a3 hy4
      have hz1 : w.heap.size + 1 + 1 < wr.heap.size := r2.lt
      have hbz : b < wr.heap.size := cell_lt a0
      have t4 : decide ((16 : Int) < (ls.length : Int)) = false := by simp; omega
      clear he hy hyin
      go_wp2_with fail
      obtain ⟨wo, hwo⟩ : ∃ wo : World, wo = wr := ⟨_, rfl⟩
      rw [← hwo] at hbl c3 c4 r1 r2 a0 a1 a2 a3 hz1 hbz ⊢
      clear hwo
      have HR2 := Lib.hid r2
      clear r2 a0 a1 a2 a3
      go_loopw [56] (fun i wr => ∃ n : Nat, n ≤ ls.length ∧ i = .int .i64 n ∧ Grow w wr ∧ wr.cell? ⟨w.heap.size, 3, none⟩ = some (.slice dsP ds.length dsC) ∧ wr.cell? ⟨w.heap.size, 4, none⟩ = some (.slice psP ps.length psC) ∧ CostAt wr (w.heap.size + 1) 0 0 0 0 ∧ CostAt wr (w.heap.size + 1 + 1) 0 fs.length (ds.length + ps.length : Int) (wrap64 ((sumTo Fr.weight fs k + sumTo (fun l : Loc => l.v.size) ls n : Nat) : Int))) (fun i _ => ls.length - (intOf i).toNat)
      case atStart =>
        have ga : Grow wo (wo.alloc (.cells #[.int .i64 yf, .int .i64 yi, .int .u64 ym, .slice lsP ls.length lsC] 74)) := (Below.refl _ _).alloc' _
        refine ⟨0, Nat.zero_le _, rfl, hbl.then ga, ga.keep c3, ga.keep c4, r1.grow ga, ?_⟩
        rw [sumTo_zero]
        exact HR2.out.grow ga
      case round =>
        clear hbl c3 c4 r1 hz1 hbz
        obtain ⟨n, hn, rfl, hbl, c3, c4, r1, r2⟩ := hrel
        by_cases hln : n < ls.length
        · obtain ⟨z, hz⟩ : ∃ z, ls[n]? = some z := ⟨_, List.getElem?_eq_getElem hln⟩
          have hzin := HYI.out.ls.2 z (getElem?_mem' hz)
          obtain ⟨b', o', hp', hb', he'⟩ := HYI.out.ls.1.elem hz
          simp only at hp'
          subst hp'
          obtain ⟨e0, e1, e2, e3, e4, e5⟩ := (he'.grow hbl).loc
          have HZI := Lib.hid hzin
          have HZ := Lib.hid hz
          have hz1 : w.heap.size + 1 + 1 < wr.heap.size := r2.lt
          have hbz : b' < wr.heap.size := cell_lt e0
          clear he' hz hzin
          generalize hV0 : wrap64 ((sumTo Fr.weight fs k + sumTo (fun l : Loc => l.v.size) ls n : Nat) : Int) = V0 at r2
          have HV0 := Lib.hid hV0
          clear hV0
          have ga : Grow wr (wr.alloc (.cells #[.int .i64 z.slot, .int .u8 z.v.k, .int .i64 z.v.n, .string z.v.t, .slice z.v.p z.v.l.length z.v.cap, .bool z.v.c] 92)) := (Below.refl _ _).alloc' _
          have GA := Lib.hid ga
          clear ga
          go_wp2_with fail
          have K0 : ∀ d : Later (wr.alloc (.cells #[.int .i64 z.slot, .int .u8 z.v.k, .int .i64 z.v.n, .string z.v.t, .slice z.v.p z.v.l.length z.v.cap, .bool z.v.c] 92)), d.w'.cell? ⟨w.heap.size + 1 + 1, 3, none⟩ = some (.int .i64 V0) := fun d => d.h.keep ((GA.out).keep r2.cells.2.2.2)
          have K1 : ∀ d : Later (wr.alloc (.cells #[.int .i64 z.slot, .int .u8 z.v.k, .int .i64 z.v.n, .string z.v.t, .slice z.v.p z.v.l.length z.v.cap, .bool z.v.c] 92)), d.w'.cell? ⟨wr.heap.size, 1, none⟩ = some (.int .u8 z.v.k) := fun d => d.h.keep (by go_simp)
          have K2 : ∀ d : Later (wr.alloc (.cells #[.int .i64 z.slot, .int .u8 z.v.k, .int .i64 z.v.n, .string z.v.t, .slice z.v.p z.v.l.length z.v.cap, .bool z.v.c] 92)), d.w'.cell? ⟨wr.heap.size, 2, none⟩ = some (.int .i64 z.v.n) := fun d => d.h.keep (by go_simp)
          have K3 : ∀ d : Later (wr.alloc (.cells #[.int .i64 z.slot, .int .u8 z.v.k, .int .i64 z.v.n, .string z.v.t, .slice z.v.p z.v.l.length z.v.cap, .bool z.v.c] 92)), d.w'.cell? ⟨wr.heap.size, 3, none⟩ = some (.string z.v.t) := fun d => d.h.keep (by go_simp)
          have K4 : ∀ d : Later (wr.alloc (.cells #[.int .i64 z.slot, .int .u8 z.v.k, .int .i64 z.v.n, .string z.v.t, .slice z.v.p z.v.l.length z.v.cap, .bool z.v.c] 92)), d.w'.cell? ⟨wr.heap.size, 4, none⟩ = some (.slice z.v.p z.v.l.length z.v.cap) := fun d => d.h.keep (by go_simp)
          have K5 : ∀ d : Later (wr.alloc (.cells #[.int .i64 z.slot, .int .u8 z.v.k, .int .i64 z.v.n, .string z.v.t, .slice z.v.p z.v.l.length z.v.cap, .bool z.v.c] 92)), d.w'.cell? ⟨wr.heap.size, 5, none⟩ = some (.bool z.v.c) := fun d => d.h.keep (by go_simp)
          refine wp_region_later_tail 7 (by kernel_rfl) (by kernel_rfl) ?_
          simp only [List.take_succ_cons, List.take_zero, List.drop_succ_cons, List.drop_zero]
          repeat (go_big_quiet_step ((go_at_call 73; exact Calls.later (HC.out z.v _ (HZI.out.v.grow ((hbl.then GA.out).then (Later.h _)))))))
          refine wpQuiet_nil ?_
          rintro _ ⟨d, rfl⟩
          have q0 := K0 d
          have q1 := ((r2.grow (GA.out)).grow d.h).free 3
          have q2 : w.heap.size + 1 + 1 < d.w'.heap.size := cell_lt q0
          have Hr2 := Lib.hid r2
          clear K0 K1 K2 K3 K4 K5 r2
          go_wp2_with fail
          have GD : Grow wr d.w' := GA.out.then d.h
          refine ⟨⟨n + 1, by omega, by go_num, (hbl.then GD).setCell (by simp; omega) _, cell_other (GD.keep c3) (by simp; omega) _, cell_other (GD.keep c4) (by simp; omega) _, (r1.grow GD).other (by simp) _, ?_⟩, by simp [intOf]; omega⟩
          have e := (Hr2.out.grow GD).set3 (wrap64 (V0 + wrap64 z.v.size))
          have e2 : wrap64 (V0 + wrap64 (z.v.size : Int)) = wrap64 ((sumTo Fr.weight fs k + sumTo (fun l : Loc => l.v.size) ls (n + 1) : Nat) : Int) := by
            rw [← HV0.out, wrap64_add_left, wrap64_add_right, sumTo_succ _ HZ.out]
            congr 1
            omega
          rw [← e2]
          exact e
        · obtain rfl : n = ls.length := by omega
          go_wp2_with fail
          refine ⟨⟨k + 1, by omega, by go_num, hbl, c3, c4, r1, ?_⟩, by simp [intOf]; omega⟩
          rw [sumTo_succ _ HY.out]
          exact r2
    · obtain rfl : k = fs.length := by omega
      go_wp2_with fail
      go_loopw [72] (fun i wr => ∃ k : Nat, k ≤ ds.length ∧ i = .int .i64 k ∧ Grow w wr ∧ wr.cell? ⟨w.heap.size, 4, none⟩ = some (.slice psP ps.length psC) ∧ CostAt wr (w.heap.size + 1) 0 0 0 0 ∧ CostAt wr (w.heap.size + 1 + 1) 0 fs.length (ds.length + ps.length : Int) (wrap64 ((sumTo Fr.weight fs fs.length + sumTo Df.weight ds k : Nat) : Int))) (fun i _ => ds.length - (intOf i).toNat)
      case atStart => exact ⟨0, Nat.zero_le _, rfl, hbl, c4, r1, by rw [sumTo_zero]; exact r2⟩
      case round =>
        clear hbl c3 c4 r1 r2
        obtain ⟨k, hk, rfl, hbl, c4, r1, r2⟩ := hrel
        by_cases hlt : k < ds.length
        · obtain ⟨y, hy⟩ : ∃ y, ds[k]? = some y := ⟨_, List.getElem?_eq_getElem hlt⟩
          have hyin := HX.out.ds.2 y (getElem?_mem' hy)
          obtain ⟨b, o, hp, hb, he⟩ := HX.out.ds.1.elem hy
          simp only at hp
          subst hp
          have HYI := Lib.hid hyin
          have HY := Lib.hid hy
          obtain ⟨yfr, yfn, yhas, yarg⟩ := y
          obtain ⟨a0, a1, a2, a3, a4, a5, a6, a7⟩ := (he.grow hbl).df
          simp only at a0 a1 a2 a3 a4 a5 a6 a7
          have hz1 : w.heap.size + 1 + 1 < wr.heap.size := r2.lt
          have hbz : b < wr.heap.size := cell_lt a0
          clear he hy hyin
          generalize hV0 : wrap64 ((sumTo Fr.weight fs fs.length + sumTo Df.weight ds k : Nat) : Int) = V0 at r2
          have HV0 := Lib.hid hV0
          clear hV0
          rcases Bool.eq_false_or_eq_true yhas with rfl | rfl
          · skip
            have GA := Lib.hid (show Grow wr (wr.alloc (.cells #[.int .i64 yfr, .int .i64 yfn, .bool true, .int .u8 yarg.k, .int .i64 yarg.n, .string yarg.t, .slice yarg.p yarg.l.length yarg.cap, .bool yarg.c] 81)) from (Below.refl _ _).alloc' _)
            go_wp2_with fail
            have K0 : ∀ d : Later (wr.alloc (.cells #[.int .i64 yfr, .int .i64 yfn, .bool true, .int .u8 yarg.k, .int .i64 yarg.n, .string yarg.t, .slice yarg.p yarg.l.length yarg.cap, .bool yarg.c] 81)), d.w'.cell? ⟨w.heap.size + 1 + 1, 3, none⟩ = some (.int .i64 V0) := fun d => d.h.keep ((GA.out).keep r2.cells.2.2.2)
            have K1 : ∀ d : Later (wr.alloc (.cells #[.int .i64 yfr, .int .i64 yfn, .bool true, .int .u8 yarg.k, .int .i64 yarg.n, .string yarg.t, .slice yarg.p yarg.l.length yarg.cap, .bool yarg.c] 81)), d.w'.cell? ⟨wr.heap.size, 3, none⟩ = some (.int .u8 yarg.k) := fun d => d.h.keep (by go_simp)
            have K2 : ∀ d : Later (wr.alloc (.cells #[.int .i64 yfr, .int .i64 yfn, .bool true, .int .u8 yarg.k, .int .i64 yarg.n, .string yarg.t, .slice yarg.p yarg.l.length yarg.cap, .bool yarg.c] 81)), d.w'.cell? ⟨wr.heap.size, 4, none⟩ = some (.int .i64 yarg.n) := fun d => d.h.keep (by go_simp)
            have K3 : ∀ d : Later (wr.alloc (.cells #[.int .i64 yfr, .int .i64 yfn, .bool true, .int .u8 yarg.k, .int .i64 yarg.n, .string yarg.t, .slice yarg.p yarg.l.length yarg.cap, .bool yarg.c] 81)), d.w'.cell? ⟨wr.heap.size, 5, none⟩ = some (.string yarg.t) := fun d => d.h.keep (by go_simp)
            have K4 : ∀ d : Later (wr.alloc (.cells #[.int .i64 yfr, .int .i64 yfn, .bool true, .int .u8 yarg.k, .int .i64 yarg.n, .string yarg.t, .slice yarg.p yarg.l.length yarg.cap, .bool yarg.c] 81)), d.w'.cell? ⟨wr.heap.size, 6, none⟩ = some (.slice yarg.p yarg.l.length yarg.cap) := fun d => d.h.keep (by go_simp)
            have K5 : ∀ d : Later (wr.alloc (.cells #[.int .i64 yfr, .int .i64 yfn, .bool true, .int .u8 yarg.k, .int .i64 yarg.n, .string yarg.t, .slice yarg.p yarg.l.length yarg.cap, .bool yarg.c] 81)), d.w'.cell? ⟨wr.heap.size, 7, none⟩ = some (.bool yarg.c) := fun d => d.h.keep (by go_simp)
            refine wp_region_later_tail 7 (by kernel_rfl) (by kernel_rfl) ?_
            simp only [List.take_succ_cons, List.take_zero, List.drop_succ_cons, List.drop_zero]
            repeat (go_big_quiet_step ((go_at_call 73; exact Calls.later (HC.out yarg _ (HYI.out.arg.grow ((hbl.then GA.out).then (Later.h _)))))))
            refine wpQuiet_nil ?_
            rintro _ ⟨d, rfl⟩
            have q0 := K0 d
            have q1 := ((r2.grow (GA.out)).grow d.h).free 3
            have q2 : w.heap.size + 1 + 1 < d.w'.heap.size := cell_lt q0
            have Hr2 := Lib.hid r2
            clear K0 K1 K2 K3 K4 K5 r2
            go_wp2_with fail
            have GD : Grow wr d.w' := GA.out.then d.h
            refine ⟨⟨k + 1, by omega, by go_num, (hbl.then GD).setCell (by simp; omega) _, cell_other (GD.keep c4) (by simp; omega) _, (r1.grow GD).other (by simp) _, ?_⟩, by simp [intOf]; omega⟩
            have e := (Hr2.out.grow GD).set3 (wrap64 (V0 + wrap64 yarg.size))
            have e2 : wrap64 (V0 + wrap64 (yarg.size : Int)) = wrap64 ((sumTo Fr.weight fs fs.length + sumTo Df.weight ds (k + 1) : Nat) : Int) := by
              rw [← HV0.out, wrap64_add_left, wrap64_add_right, sumTo_succ _ HY.out, show Df.weight _ = yarg.size from rfl]
              congr 1
              omega
            rw [← e2]
            exact e
          · skip
            have GA := Lib.hid (show Grow wr (wr.alloc (.cells #[.int .i64 yfr, .int .i64 yfn, .bool false, .int .u8 yarg.k, .int .i64 yarg.n, .string yarg.t, .slice yarg.p yarg.l.length yarg.cap, .bool yarg.c] 81)) from (Below.refl _ _).alloc' _)
            go_wp2_with fail
            refine ⟨⟨k + 1, by omega, by go_num, hbl.then GA.out, GA.out.keep c4, r1.grow GA.out, ?_⟩, by simp [intOf]; omega⟩
            have e2 : sumTo Fr.weight fs fs.length + sumTo Df.weight ds (k + 1) = sumTo Fr.weight fs fs.length + sumTo Df.weight ds k := by
              rw [sumTo_succ _ HY.out, show Df.weight _ = 0 from rfl]; omega
            rw [e2, HV0.out]
            exact r2.grow GA.out
        · obtain rfl : k = ds.length := by omega
          go_wp2_with fail
          go_loopw [89] (fun i wr => ∃ k : Nat, k ≤ ps.length ∧ i = .int .i64 k ∧ Grow w wr ∧ CostAt wr (w.heap.size + 1) 0 0 0 0 ∧ CostAt wr (w.heap.size + 1 + 1) 0 fs.length (ds.length + ps.length : Int) (wrap64 ((sumTo Fr.weight fs fs.length + sumTo Df.weight ds ds.length + sumTo Pn.weight ps k : Nat) : Int))) (fun i _ => ps.length - (intOf i).toNat)
          case atStart => exact ⟨0, Nat.zero_le _, rfl, hbl, r1, by rw [sumTo_zero]; exact r2⟩
          case round =>
            clear hbl c4 r1 r2
            obtain ⟨k, hk, rfl, hbl, r1, r2⟩ := hrel
            by_cases hlt : k < ps.length
            · obtain ⟨y, hy⟩ : ∃ y, ps[k]? = some y := ⟨_, List.getElem?_eq_getElem hlt⟩
              have hyin := HX.out.ps.2 y (getElem?_mem' hy)
              obtain ⟨b, o, hp, hb, he⟩ := HX.out.ps.1.elem hy
              simp only at hp
              subst hp
              have HYI := Lib.hid hyin
              have HY := Lib.hid hy
              skip
              obtain ⟨a0, a1, a2, a3, a4, a5, a6⟩ := (he.grow hbl).pn
              skip
              have hz1 : w.heap.size + 1 + 1 < wr.heap.size := r2.lt
              have hbz : b < wr.heap.size := cell_lt a0
              clear he hy hyin
              generalize hV0 : wrap64 ((sumTo Fr.weight fs fs.length + sumTo Df.weight ds ds.length + sumTo Pn.weight ps k : Nat) : Int) = V0 at r2
              have HV0 := Lib.hid hV0
              clear hV0
              by_cases ht : ¬ y.tag = 0
              · have HT := Lib.hid ht
                have t5 : (y.tag != 0) = true := by rw [bne_iff_ne]; exact ht
                clear ht
                have GA := Lib.hid (show Grow wr (wr.alloc (.cells #[.int .u64 y.tag, .int .u8 y.v.k, .int .i64 y.v.n, .string y.v.t, .slice y.v.p y.v.l.length y.v.cap, .bool y.v.c, .int .u64 y.flags] 85)) from (Below.refl _ _).alloc' _)
                go_wp2_with fail
                have K0 : ∀ d : Later (wr.alloc (.cells #[.int .u64 y.tag, .int .u8 y.v.k, .int .i64 y.v.n, .string y.v.t, .slice y.v.p y.v.l.length y.v.cap, .bool y.v.c, .int .u64 y.flags] 85)), d.w'.cell? ⟨w.heap.size + 1 + 1, 3, none⟩ = some (.int .i64 V0) := fun d => d.h.keep ((GA.out).keep r2.cells.2.2.2)
                have K1 : ∀ d : Later (wr.alloc (.cells #[.int .u64 y.tag, .int .u8 y.v.k, .int .i64 y.v.n, .string y.v.t, .slice y.v.p y.v.l.length y.v.cap, .bool y.v.c, .int .u64 y.flags] 85)), d.w'.cell? ⟨wr.heap.size, 1, none⟩ = some (.int .u8 y.v.k) := fun d => d.h.keep (by go_simp)
                have K2 : ∀ d : Later (wr.alloc (.cells #[.int .u64 y.tag, .int .u8 y.v.k, .int .i64 y.v.n, .string y.v.t, .slice y.v.p y.v.l.length y.v.cap, .bool y.v.c, .int .u64 y.flags] 85)), d.w'.cell? ⟨wr.heap.size, 2, none⟩ = some (.int .i64 y.v.n) := fun d => d.h.keep (by go_simp)
                have K3 : ∀ d : Later (wr.alloc (.cells #[.int .u64 y.tag, .int .u8 y.v.k, .int .i64 y.v.n, .string y.v.t, .slice y.v.p y.v.l.length y.v.cap, .bool y.v.c, .int .u64 y.flags] 85)), d.w'.cell? ⟨wr.heap.size, 3, none⟩ = some (.string y.v.t) := fun d => d.h.keep (by go_simp)
                have K4 : ∀ d : Later (wr.alloc (.cells #[.int .u64 y.tag, .int .u8 y.v.k, .int .i64 y.v.n, .string y.v.t, .slice y.v.p y.v.l.length y.v.cap, .bool y.v.c, .int .u64 y.flags] 85)), d.w'.cell? ⟨wr.heap.size, 4, none⟩ = some (.slice y.v.p y.v.l.length y.v.cap) := fun d => d.h.keep (by go_simp)
                have K5 : ∀ d : Later (wr.alloc (.cells #[.int .u64 y.tag, .int .u8 y.v.k, .int .i64 y.v.n, .string y.v.t, .slice y.v.p y.v.l.length y.v.cap, .bool y.v.c, .int .u64 y.flags] 85)), d.w'.cell? ⟨wr.heap.size, 5, none⟩ = some (.bool y.v.c) := fun d => d.h.keep (by go_simp)
                refine wp_region_later_tail 7 (by kernel_rfl) (by kernel_rfl) ?_
                simp only [List.take_succ_cons, List.take_zero, List.drop_succ_cons, List.drop_zero]
                repeat (go_big_quiet_step ((go_at_call 73; exact Calls.later (HC.out y.v _ (HYI.out.v.grow ((hbl.then GA.out).then (Later.h _)))))))
                refine wpQuiet_nil ?_
                rintro _ ⟨d, rfl⟩
                have q0 := K0 d
                have q1 := ((r2.grow (GA.out)).grow d.h).free 3
                have q2 : w.heap.size + 1 + 1 < d.w'.heap.size := cell_lt q0
                have Hr2 := Lib.hid r2
                clear K0 K1 K2 K3 K4 K5 r2
                go_wp2_with fail
                have GD : Grow wr d.w' := GA.out.then d.h
                refine ⟨⟨k + 1, by omega, by go_num, (hbl.then GD).setCell (by simp; omega) _, (r1.grow GD).other (by simp) _, ?_⟩, by simp [intOf]; omega⟩
                have e := (Hr2.out.grow GD).set3 (wrap64 (V0 + wrap64 y.v.size))
                have e2 : wrap64 (V0 + wrap64 (y.v.size : Int)) = wrap64 ((sumTo Fr.weight fs fs.length + sumTo Df.weight ds ds.length + sumTo Pn.weight ps (k + 1) : Nat) : Int) := by
                  rw [← HV0.out, wrap64_add_left, wrap64_add_right, sumTo_succ _ HY.out, show Pn.weight _ = y.v.size from by unfold Pn.weight; rw [if_neg HT.out]]
                  congr 1
                  omega
                rw [← e2]
                exact e
              · have HT := Lib.hid ht
                have t5 : (y.tag != 0) = false := by simpa using ht
                clear ht
                have GA := Lib.hid (show Grow wr (wr.alloc (.cells #[.int .u64 y.tag, .int .u8 y.v.k, .int .i64 y.v.n, .string y.v.t, .slice y.v.p y.v.l.length y.v.cap, .bool y.v.c, .int .u64 y.flags] 85)) from (Below.refl _ _).alloc' _)
                go_wp2_with fail
                refine ⟨⟨k + 1, by omega, by go_num, hbl.then GA.out, r1.grow GA.out, ?_⟩, by simp [intOf]; omega⟩
                have e2 : sumTo Fr.weight fs fs.length + sumTo Df.weight ds ds.length + sumTo Pn.weight ps (k + 1) = sumTo Fr.weight fs fs.length + sumTo Df.weight ds ds.length + sumTo Pn.weight ps k := by
                  rw [sumTo_succ _ HY.out, show Pn.weight _ = 0 from by unfold Pn.weight; rw [if_pos (Classical.not_not.1 HT.out)]]; omega
                rw [e2, HV0.out]
                exact r2.grow GA.out
            · obtain rfl : k = ps.length := by omega
              obtain ⟨d0, d1, d2, d3⟩ := r1.cells
              obtain ⟨f0, f1, f2, f3⟩ := r2.cells
              have u0 := r1.free 0
              have u1 := r1.free 1
              have u2 := r1.free 2
              have u3 := r1.free 3
              have hz0 : w.heap.size + 1 < wr.heap.size := r1.lt
              have hz1 : w.heap.size + 1 + 1 < wr.heap.size := r2.lt
              generalize hV0 : wrap64 ((sumTo Fr.weight fs fs.length + sumTo Df.weight ds ds.length + sumTo Pn.weight ps ps.length : Nat) : Int) = V0 at f3
              have HV0 := Lib.hid hV0
              have HR1 := Lib.hid r1
              clear r1 r2 hV0
              go_wp2_with fail
              obtain ⟨x0, x1, x2, x3⟩ := ((((HR1.out.set0 0).set1 fs.length).set2 (ds.length + ps.length : Int)).set3 V0).cells
              refine bodyPost_ret (v := .tuple #[.agg #[.int .i64 0, .int .i64 fs.length, .int .i64 (ds.length + ps.length : Int), .int .i64 V0], .bool true]) (by simp [results, Try.results57, go_sem, x0, x1, x2, x3]) rfl ⟨?_, (((hbl.setCell (by simp) _).setCell (by simp) _).setCell (by simp) _).setCell (by simp) _⟩
              rw [← HV0.out]
              rfl
end Go.Proofs.Ytflbiiflbehleaa
