import Derived.Test.YtflbiiflbehleaaRefSame2
import Derived.RegionTactic
import Derived.BigRegion
namespace Go.Proofs.Ytflbiiflbehleaa
open Go.RowKit
set_option maxRecDepth 100000 in
set_option maxHeartbeats 1000000 in
theorem ref34_SameRoutine (a b : Ro) (w : World) (ha : a.In w) (hb : b.In w) :
    Calls Try.prog 43 #[a.agg, b.agg] w fun e w' => e = .returned (.bool (Ro.same a b)) ∧ Grow w w' := by
  by_cases h : a.status = b.status ∧ a.key = b.key ∧ a.fs.length = b.fs.length ∧ a.ds.length = b.ds.length ∧ a.ps.length = b.ps.length
  · exact ref34_SameRoutine_yes a b w ha hb h
  · have hs : Ro.same a b = false := by
      rw [Bool.eq_false_iff]
      intro hh
      simp only [Ro.same, Bool.and_eq_true, beq_iff_eq] at hh
      apply h
      refine ⟨hh.1.1.1.1, hh.1.1.1.2, ?_, ?_, ?_⟩ <;> refine Classical.byContradiction fun hne => ?_
      all_goals rw [allSame_len hne] at hh; simp at hh
    rw [hs]
    have H := Lib.hid h
    clear h hs ha hb
    go_enter Try.func43, Try.ntmps43
    go_wp2_with fail
    all_goals first
      | (go_ret; exact ⟨rfl, ((Below.refl _ _).alloc' _).alloc' _⟩)
      | exact absurd ⟨by assumption, by assumption, Int.ofNat.inj (by assumption), Int.ofNat.inj (by assumption), bne_len (by assumption)⟩ H.out
end Go.Proofs.Ytflbiiflbehleaa
