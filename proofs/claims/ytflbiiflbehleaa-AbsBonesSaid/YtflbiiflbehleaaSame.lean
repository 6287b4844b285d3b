import Derived.Test.YtflbiiflbehleaaEq
namespace Go.Proofs.Ytflbiiflbehleaa
open Go.RowKit
theorem valueSame (N : Nat) : ∀ (a b : V) (w : World), a.size ≤ N → a.In w → b.In w →
    Calls Try.prog 63 #[a.agg, b.agg] w fun e w' => e = .returned (.bool (V.same a b)) ∧ Grow w w' := by
  induction N with
  | zero => intro a b w hN; have := a.size_pos; omega
  | succ N ih =>
  intro a b w hN ha hb
  have HC0 := Lib.hid (show ∀ w1, Grow w w1 → Calls Try.prog 76 #[.slice a.p a.l.length a.cap, .slice b.p b.l.length b.cap, .func (.func 63) #[] #[]] w1 fun e w' => e = .returned (.bool (allSame V.same a.l b.l)) ∧ Grow w1 w' from fun w1 g =>
    equalV 63 (by intros; kernel_rfl) V.same _ _ _ _ _ _ w1 (ha.lies.grow g) (hb.lies.grow g) fun i x y w' hx hy g' => ih x y w' (by have := V.size_lt (getElem?_mem' hx); omega) ((ha.mem x (getElem?_mem' hx)).grow (g.then g')) ((hb.mem y (getElem?_mem' hy)).grow (g.then g')))
  clear ha hb ih hN
  go_enter Try.func63, Try.ntmps63
  go_wp2_with (go_at_call 76; refine (HC0.out _ (((Below.refl _ _).alloc' _).alloc' _)).mono ?_; rintro e w' ⟨rfl, hg0⟩)
  all_goals
    go_ret
    first
      | exact ⟨ret_bool rfl (by simp [V.same_eq, *]), (((Below.refl _ _).alloc' _).alloc' _).then hg0⟩
      | exact ⟨ret_bool rfl (by simp [V.same_eq, *]), ((Below.refl _ _).alloc' _).alloc' _⟩
theorem value_Same (a b : V) (w : World) (ha : a.In w) (hb : b.In w) :
    Calls Try.prog 63 #[a.agg, b.agg] w fun e w' => e = .returned (.bool (V.same a b)) ∧ Grow w w' :=
  valueSame a.size a b w (Nat.le_refl _) ha hb
set_option maxRecDepth 100000 in
set_option maxHeartbeats 400000 in
theorem reader_sameLocal (a b : Loc) (w : World) (ha : a.In w) (hb : b.In w) :
    Calls Try.prog 62 #[a.agg, b.agg] w fun e w' => e = .returned (.bool (Loc.same a b)) ∧ Grow w w' := by
  have HC0 := Lib.hid (show ∀ w1, Grow w w1 → Calls Try.prog 63 #[a.v.agg, b.v.agg] w1 fun e w' => e = .returned (.bool (V.same a.v b.v)) ∧ Grow w1 w' from fun w1 g => value_Same _ _ w1 (ha.v.grow g) (hb.v.grow g))
  clear ha hb
  go_enter Try.func62, Try.ntmps62
  go_wp2_with (go_at_call 63; refine (HC0.out _ (((Below.refl _ _).alloc' _).alloc' _)).mono ?_; rintro e w' ⟨rfl, hg0⟩)
  all_goals
    go_ret
    first
      | exact ⟨ret_bool rfl (by simp [Loc.same, *]), (((Below.refl _ _).alloc' _).alloc' _).then hg0⟩
      | exact ⟨ret_bool rfl (by simp [Loc.same, *]), ((Below.refl _ _).alloc' _).alloc' _⟩
set_option maxRecDepth 100000 in
set_option maxHeartbeats 400000 in
theorem reader_sameFrame (a b : Fr) (w : World) (ha : a.In w) (hb : b.In w) :
    Calls Try.prog 38 #[a.agg, b.agg] w fun e w' => e = .returned (.bool (Fr.same a b)) ∧ Grow w w' := by
  have HC0 := Lib.hid (show ∀ w1, Grow w w1 → Calls Try.prog 61 #[.slice a.lsP a.ls.length a.lsC, .slice b.lsP b.ls.length b.lsC, .func (.func 62) #[] #[]] w1 fun e w' => e = .returned (.bool (allSame Loc.same a.ls b.ls)) ∧ Grow w1 w' from fun w1 g =>
    equalLoc 62 (by intros; kernel_rfl) Loc.same _ _ _ _ _ _ w1 (ha.ls.1.grow g) (hb.ls.1.grow g) fun i x y w' hx hy g' => reader_sameLocal x y w' ((ha.ls.2 x (getElem?_mem' hx)).grow (g.then g')) ((hb.ls.2 y (getElem?_mem' hy)).grow (g.then g')))
  clear ha hb
  go_enter Try.func38, Try.ntmps38
  go_wp2_with (go_at_call 61; refine (HC0.out _ (((Below.refl _ _).alloc' _).alloc' _)).mono ?_; rintro e w' ⟨rfl, hg0⟩)
  all_goals
    go_ret
    first
      | exact ⟨ret_bool rfl (by simp [Fr.same, *]), (((Below.refl _ _).alloc' _).alloc' _).then hg0⟩
      | exact ⟨ret_bool rfl (by simp [Fr.same, *]), ((Below.refl _ _).alloc' _).alloc' _⟩
set_option maxRecDepth 100000 in
set_option maxHeartbeats 400000 in
theorem reader_sameDefer (a b : Df) (w : World) (ha : a.In w) (hb : b.In w) :
    Calls Try.prog 40 #[a.agg, b.agg] w fun e w' => e = .returned (.bool (Df.same a b)) ∧ Grow w w' := by
  have HC0 := Lib.hid (show ∀ w1, Grow w w1 → Calls Try.prog 63 #[a.arg.agg, b.arg.agg] w1 fun e w' => e = .returned (.bool (V.same a.arg b.arg)) ∧ Grow w1 w' from fun w1 g => value_Same _ _ w1 (ha.arg.grow g) (hb.arg.grow g))
  clear ha hb
  go_enter Try.func40, Try.ntmps40
  go_wp2_with (go_at_call 63; refine (HC0.out _ (((Below.refl _ _).alloc' _).alloc' _)).mono ?_; rintro e w' ⟨rfl, hg0⟩)
  all_goals
    go_ret
    first
      | exact ⟨ret_bool rfl (by simp [Df.same, *]), (((Below.refl _ _).alloc' _).alloc' _).then hg0⟩
      | exact ⟨ret_bool rfl (by simp [Df.same, *]), ((Below.refl _ _).alloc' _).alloc' _⟩
set_option maxRecDepth 100000 in
set_option maxHeartbeats 400000 in
theorem reader_samePanic (a b : Pn) (w : World) (ha : a.In w) (hb : b.In w) :
    Calls Try.prog 42 #[a.agg, b.agg] w fun e w' => e = .returned (.bool (Pn.same a b)) ∧ Grow w w' := by
  have HC0 := Lib.hid (show ∀ w1, Grow w w1 → Calls Try.prog 63 #[a.v.agg, b.v.agg] w1 fun e w' => e = .returned (.bool (V.same a.v b.v)) ∧ Grow w1 w' from fun w1 g => value_Same _ _ w1 (ha.v.grow g) (hb.v.grow g))
  clear ha hb
  go_enter Try.func42, Try.ntmps42
  go_wp2_with (go_at_call 63; refine (HC0.out _ (((Below.refl _ _).alloc' _).alloc' _)).mono ?_; rintro e w' ⟨rfl, hg0⟩)
  all_goals
    go_ret
    first
      | exact ⟨ret_bool rfl (by simp [Pn.same, *]), (((Below.refl _ _).alloc' _).alloc' _).then hg0⟩
      | exact ⟨ret_bool rfl (by simp [Pn.same, *]), ((Below.refl _ _).alloc' _).alloc' _⟩
end Go.Proofs.Ytflbiiflbehleaa
