import Derived.Test.YtflbiiflbehleaaSame
namespace Go.Proofs.Ytflbiiflbehleaa
open Go.RowKit
set_option maxRecDepth 100000 in
set_option maxHeartbeats 400000 in
theorem abs_sameLocal (a b : Loc) (w : World) (ha : a.In w) (hb : b.In w) :
    Calls Try.prog 67 #[a.agg, b.agg] w fun e w' => e = .returned (.bool (Loc.same a b)) ∧ Grow w w' := by
  have HC0 := Lib.hid (show ∀ w1, Grow w w1 → Calls Try.prog 63 #[a.v.agg, b.v.agg] w1 fun e w' => e = .returned (.bool (V.same a.v b.v)) ∧ Grow w1 w' from fun w1 g => value_Same _ _ w1 (ha.v.grow g) (hb.v.grow g))
  clear ha hb
  go_enter Try.func67, Try.ntmps67
  go_wp2_with (go_at_call 63; refine (HC0.out _ (((Below.refl _ _).alloc' _).alloc' _)).mono ?_; rintro e w' ⟨rfl, hg0⟩)
  all_goals
    go_ret
    first
      | exact ⟨ret_bool rfl (by simp [Loc.same, *]), (((Below.refl _ _).alloc' _).alloc' _).then hg0⟩
      | exact ⟨ret_bool rfl (by simp [Loc.same, *]), ((Below.refl _ _).alloc' _).alloc' _⟩
set_option maxRecDepth 100000 in
set_option maxHeartbeats 400000 in
theorem abs_sameFrame (a b : Fr) (w : World) (ha : a.In w) (hb : b.In w) :
    Calls Try.prog 66 #[a.agg, b.agg] w fun e w' => e = .returned (.bool (Fr.same a b)) ∧ Grow w w' := by
  have HC0 := Lib.hid (show ∀ w1, Grow w w1 → Calls Try.prog 61 #[.slice a.lsP a.ls.length a.lsC, .slice b.lsP b.ls.length b.lsC, .func (.func 67) #[] #[]] w1 fun e w' => e = .returned (.bool (allSame Loc.same a.ls b.ls)) ∧ Grow w1 w' from fun w1 g =>
    equalLoc 67 (by intros; kernel_rfl) Loc.same _ _ _ _ _ _ w1 (ha.ls.1.grow g) (hb.ls.1.grow g) fun i x y w' hx hy g' => abs_sameLocal x y w' ((ha.ls.2 x (getElem?_mem' hx)).grow (g.then g')) ((hb.ls.2 y (getElem?_mem' hy)).grow (g.then g')))
  clear ha hb
  go_enter Try.func66, Try.ntmps66
  go_wp2_with (go_at_call 61; refine (HC0.out _ (((Below.refl _ _).alloc' _).alloc' _)).mono ?_; rintro e w' ⟨rfl, hg0⟩)
  all_goals
    go_ret
    first
      | exact ⟨ret_bool rfl (by simp [Fr.same, *]), (((Below.refl _ _).alloc' _).alloc' _).then hg0⟩
      | exact ⟨ret_bool rfl (by simp [Fr.same, *]), ((Below.refl _ _).alloc' _).alloc' _⟩
set_option maxRecDepth 100000 in
set_option maxHeartbeats 400000 in
theorem abs_sameDefer (a b : Df) (w : World) (ha : a.In w) (hb : b.In w) :
    Calls Try.prog 68 #[a.agg, b.agg] w fun e w' => e = .returned (.bool (Df.same a b)) ∧ Grow w w' := by
  have HC0 := Lib.hid (show ∀ w1, Grow w w1 → Calls Try.prog 63 #[a.arg.agg, b.arg.agg] w1 fun e w' => e = .returned (.bool (V.same a.arg b.arg)) ∧ Grow w1 w' from fun w1 g => value_Same _ _ w1 (ha.arg.grow g) (hb.arg.grow g))
  clear ha hb
  go_enter Try.func68, Try.ntmps68
  go_wp2_with (go_at_call 63; refine (HC0.out _ (((Below.refl _ _).alloc' _).alloc' _)).mono ?_; rintro e w' ⟨rfl, hg0⟩)
  all_goals
    go_ret
    first
      | exact ⟨ret_bool rfl (by simp [Df.same, *]), (((Below.refl _ _).alloc' _).alloc' _).then hg0⟩
      | exact ⟨ret_bool rfl (by simp [Df.same, *]), ((Below.refl _ _).alloc' _).alloc' _⟩
set_option maxRecDepth 100000 in
set_option maxHeartbeats 400000 in
theorem abs_samePanic (a b : Pn) (w : World) (ha : a.In w) (hb : b.In w) :
    Calls Try.prog 69 #[a.agg, b.agg] w fun e w' => e = .returned (.bool (Pn.same a b)) ∧ Grow w w' := by
  have HC0 := Lib.hid (show ∀ w1, Grow w w1 → Calls Try.prog 63 #[a.v.agg, b.v.agg] w1 fun e w' => e = .returned (.bool (V.same a.v b.v)) ∧ Grow w1 w' from fun w1 g => value_Same _ _ w1 (ha.v.grow g) (hb.v.grow g))
  clear ha hb
  go_enter Try.func69, Try.ntmps69
  go_wp2_with (go_at_call 63; refine (HC0.out _ (((Below.refl _ _).alloc' _).alloc' _)).mono ?_; rintro e w' ⟨rfl, hg0⟩)
  all_goals
    go_ret
    first
      | exact ⟨ret_bool rfl (by simp [Pn.same, *]), (((Below.refl _ _).alloc' _).alloc' _).then hg0⟩
      | exact ⟨ret_bool rfl (by simp [Pn.same, *]), ((Below.refl _ _).alloc' _).alloc' _⟩
set_option maxRecDepth 100000 in
set_option maxHeartbeats 400000 in
theorem abs_same (a b : Ro) (w : World) (ha : a.In w) (hb : b.In w) :
    Calls Try.prog 50 #[a.agg, b.agg] w fun e w' => e = .returned (.bool (Ro.same a b)) ∧ Grow w w' := by
  have HC0 := Lib.hid (show ∀ w1, Grow w w1 → Calls Try.prog 37 #[.slice a.fsP a.fs.length a.fsC, .slice b.fsP b.fs.length b.fsC, .func (.func 66) #[] #[]] w1 fun e w' => e = .returned (.bool (allSame Fr.same a.fs b.fs)) ∧ Grow w1 w' from fun w1 g =>
    equalFr 66 (by intros; kernel_rfl) Fr.same _ _ _ _ _ _ w1 (ha.fs.1.grow g) (hb.fs.1.grow g) fun i x y w' hx hy g' => abs_sameFrame x y w' ((ha.fs.2 x (getElem?_mem' hx)).grow (g.then g')) ((hb.fs.2 y (getElem?_mem' hy)).grow (g.then g')))
  have HC1 := Lib.hid (show ∀ w1, Grow w w1 → Calls Try.prog 39 #[.slice a.dsP a.ds.length a.dsC, .slice b.dsP b.ds.length b.dsC, .func (.func 68) #[] #[]] w1 fun e w' => e = .returned (.bool (allSame Df.same a.ds b.ds)) ∧ Grow w1 w' from fun w1 g =>
    equalDf 68 (by intros; kernel_rfl) Df.same _ _ _ _ _ _ w1 (ha.ds.1.grow g) (hb.ds.1.grow g) fun i x y w' hx hy g' => abs_sameDefer x y w' ((ha.ds.2 x (getElem?_mem' hx)).grow (g.then g')) ((hb.ds.2 y (getElem?_mem' hy)).grow (g.then g')))
  have HC2 := Lib.hid (show ∀ w1, Grow w w1 → Calls Try.prog 41 #[.slice a.psP a.ps.length a.psC, .slice b.psP b.ps.length b.psC, .func (.func 69) #[] #[]] w1 fun e w' => e = .returned (.bool (allSame Pn.same a.ps b.ps)) ∧ Grow w1 w' from fun w1 g =>
    equalPn 69 (by intros; kernel_rfl) Pn.same _ _ _ _ _ _ w1 (ha.ps.1.grow g) (hb.ps.1.grow g) fun i x y w' hx hy g' => abs_samePanic x y w' ((ha.ps.2 x (getElem?_mem' hx)).grow (g.then g')) ((hb.ps.2 y (getElem?_mem' hy)).grow (g.then g')))
  clear ha hb
  obtain ⟨r0, hr0⟩ : ∃ r, allSame Fr.same a.fs b.fs = r := ⟨_, rfl⟩
  rw [hr0] at HC0
  have HR0 := Lib.hid hr0
  clear hr0
  obtain ⟨r1, hr1⟩ : ∃ r, allSame Df.same a.ds b.ds = r := ⟨_, rfl⟩
  rw [hr1] at HC1
  have HR1 := Lib.hid hr1
  clear hr1
  obtain ⟨r2, hr2⟩ : ∃ r, allSame Pn.same a.ps b.ps = r := ⟨_, rfl⟩
  rw [hr2] at HC2
  have HR2 := Lib.hid hr2
  clear hr2
  cases r0
  · go_enter Try.func50, Try.ntmps50
    go_wp2_with (first | (go_at_call 37; refine (HC0.out _ (((Below.refl _ _).alloc' _).alloc' _)).mono ?_; rintro e w0 ⟨rfl, hg0⟩; have ka1 := hg0.keep (p := ⟨w.heap.size, 3, none⟩) (v := .slice a.dsP a.ds.length a.dsC) (by go_simp); have kb1 := hg0.keep (p := ⟨w.heap.size + 1, 3, none⟩) (v := .slice b.dsP b.ds.length b.dsC) (by go_simp); have ka2 := hg0.keep (p := ⟨w.heap.size, 4, none⟩) (v := .slice a.psP a.ps.length a.psC) (by go_simp); have kb2 := hg0.keep (p := ⟨w.heap.size + 1, 4, none⟩) (v := .slice b.psP b.ps.length b.psC) (by go_simp)))
    all_goals
      go_ret
      first
        | exact ⟨ret_bool rfl (by simp [Ro.same, HR0.out, HR1.out, HR2.out, *]), (((Below.refl _ _).alloc' _).alloc' _).then hg0⟩
        | exact ⟨ret_bool rfl (by simp [Ro.same, HR0.out, HR1.out, HR2.out, *]), ((Below.refl _ _).alloc' _).alloc' _⟩
  cases r1
  · go_enter Try.func50, Try.ntmps50
    go_wp2_with (first | (go_at_call 37; refine (HC0.out _ (((Below.refl _ _).alloc' _).alloc' _)).mono ?_; rintro e w0 ⟨rfl, hg0⟩; have ka1 := hg0.keep (p := ⟨w.heap.size, 3, none⟩) (v := .slice a.dsP a.ds.length a.dsC) (by go_simp); have kb1 := hg0.keep (p := ⟨w.heap.size + 1, 3, none⟩) (v := .slice b.dsP b.ds.length b.dsC) (by go_simp); have ka2 := hg0.keep (p := ⟨w.heap.size, 4, none⟩) (v := .slice a.psP a.ps.length a.psC) (by go_simp); have kb2 := hg0.keep (p := ⟨w.heap.size + 1, 4, none⟩) (v := .slice b.psP b.ps.length b.psC) (by go_simp)) | (go_at_call 39; refine (HC1.out _ ((((Below.refl _ _).alloc' _).alloc' _).then hg0)).mono ?_; rintro e w1 ⟨rfl, hg1⟩; replace ka2 := hg1.keep ka2; replace kb2 := hg1.keep kb2))
    all_goals
      go_ret
      first
        | exact ⟨ret_bool rfl (by simp [Ro.same, HR0.out, HR1.out, HR2.out, *]), ((((Below.refl _ _).alloc' _).alloc' _).then hg0).then hg1⟩
        | exact ⟨ret_bool rfl (by simp [Ro.same, HR0.out, HR1.out, HR2.out, *]), (((Below.refl _ _).alloc' _).alloc' _).then hg0⟩
        | exact ⟨ret_bool rfl (by simp [Ro.same, HR0.out, HR1.out, HR2.out, *]), ((Below.refl _ _).alloc' _).alloc' _⟩
  cases r2
  · go_enter Try.func50, Try.ntmps50
    go_wp2_with (first | (go_at_call 37; refine (HC0.out _ (((Below.refl _ _).alloc' _).alloc' _)).mono ?_; rintro e w0 ⟨rfl, hg0⟩; have ka1 := hg0.keep (p := ⟨w.heap.size, 3, none⟩) (v := .slice a.dsP a.ds.length a.dsC) (by go_simp); have kb1 := hg0.keep (p := ⟨w.heap.size + 1, 3, none⟩) (v := .slice b.dsP b.ds.length b.dsC) (by go_simp); have ka2 := hg0.keep (p := ⟨w.heap.size, 4, none⟩) (v := .slice a.psP a.ps.length a.psC) (by go_simp); have kb2 := hg0.keep (p := ⟨w.heap.size + 1, 4, none⟩) (v := .slice b.psP b.ps.length b.psC) (by go_simp)) | (go_at_call 39; refine (HC1.out _ ((((Below.refl _ _).alloc' _).alloc' _).then hg0)).mono ?_; rintro e w1 ⟨rfl, hg1⟩; replace ka2 := hg1.keep ka2; replace kb2 := hg1.keep kb2) | (go_at_call 41; refine (HC2.out _ (((((Below.refl _ _).alloc' _).alloc' _).then hg0).then hg1)).mono ?_; rintro e w2 ⟨rfl, hg2⟩))
    all_goals
      go_ret
      first
        | exact ⟨ret_bool rfl (by simp [Ro.same, HR0.out, HR1.out, HR2.out, *]), (((((Below.refl _ _).alloc' _).alloc' _).then hg0).then hg1).then hg2⟩
        | exact ⟨ret_bool rfl (by simp [Ro.same, HR0.out, HR1.out, HR2.out, *]), ((((Below.refl _ _).alloc' _).alloc' _).then hg0).then hg1⟩
        | exact ⟨ret_bool rfl (by simp [Ro.same, HR0.out, HR1.out, HR2.out, *]), (((Below.refl _ _).alloc' _).alloc' _).then hg0⟩
        | exact ⟨ret_bool rfl (by simp [Ro.same, HR0.out, HR1.out, HR2.out, *]), ((Below.refl _ _).alloc' _).alloc' _⟩
  go_enter Try.func50, Try.ntmps50
  go_wp2_with (first | (go_at_call 37; refine (HC0.out _ (((Below.refl _ _).alloc' _).alloc' _)).mono ?_; rintro e w0 ⟨rfl, hg0⟩; have ka1 := hg0.keep (p := ⟨w.heap.size, 3, none⟩) (v := .slice a.dsP a.ds.length a.dsC) (by go_simp); have kb1 := hg0.keep (p := ⟨w.heap.size + 1, 3, none⟩) (v := .slice b.dsP b.ds.length b.dsC) (by go_simp); have ka2 := hg0.keep (p := ⟨w.heap.size, 4, none⟩) (v := .slice a.psP a.ps.length a.psC) (by go_simp); have kb2 := hg0.keep (p := ⟨w.heap.size + 1, 4, none⟩) (v := .slice b.psP b.ps.length b.psC) (by go_simp)) | (go_at_call 39; refine (HC1.out _ ((((Below.refl _ _).alloc' _).alloc' _).then hg0)).mono ?_; rintro e w1 ⟨rfl, hg1⟩; replace ka2 := hg1.keep ka2; replace kb2 := hg1.keep kb2) | (go_at_call 41; refine (HC2.out _ (((((Below.refl _ _).alloc' _).alloc' _).then hg0).then hg1)).mono ?_; rintro e w2 ⟨rfl, hg2⟩))
  all_goals
    go_ret
    first
      | exact ⟨ret_bool rfl (by simp [Ro.same, HR0.out, HR1.out, HR2.out, *]), (((((Below.refl _ _).alloc' _).alloc' _).then hg0).then hg1).then hg2⟩
      | exact ⟨ret_bool rfl (by simp [Ro.same, HR0.out, HR1.out, HR2.out, *]), ((((Below.refl _ _).alloc' _).alloc' _).then hg0).then hg1⟩
      | exact ⟨ret_bool rfl (by simp [Ro.same, HR0.out, HR1.out, HR2.out, *]), (((Below.refl _ _).alloc' _).alloc' _).then hg0⟩
      | exact ⟨ret_bool rfl (by simp [Ro.same, HR0.out, HR1.out, HR2.out, *]), ((Below.refl _ _).alloc' _).alloc' _⟩
end Go.Proofs.Ytflbiiflbehleaa
