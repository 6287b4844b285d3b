import Derived.Test.YtkgnabjcogmobaaGreatRows
import Derived.ProofKit
namespace Go.Proofs.YtkgnabjcogmobaaGreat
theorem and_t {a b : Bool} (h : a = true) (k : b = true) : (a && b) = true := by rw [h, k]; rfl
theorem readerNames_own : ownKnob Tryz.prog.godebug = none := by kernel_rfl
theorem fact1 : laidOutB Tryz.prog = true := by kernel_rfl
theorem fact2 : mapsRowed Tryz.prog = true := by kernel_rfl
theorem fact3 : Tryz.prog.stopsHeard = true := by kernel_rfl
theorem fact4 : Tryz.prog.mayEnter = true := by kernel_rfl
theorem fact5 : (Rows.readerNamesRow.lifted == Tryz.prog.liftsFinal) = true := by kernel_rfl
theorem fact6 : (Rows.readerNamesRow.plainKeys == Tryz.prog.plainKeys) = true := by kernel_rfl
theorem fact7 : (Tryz.prog.make == some Rows.readerNamesRow.make) = true := by kernel_rfl
theorem fact8 : (Rows.readerNamesRow.inPlace == Tryz.prog.inPlace 3) = true := by kernel_rfl
theorem fact9 : (Rows.readerNamesRow.unfollowed == Tryz.prog.unfollowed 3) = true := by kernel_rfl
theorem fact10 : (Rows.readerNamesRow.recurses == Tryz.prog.recurses 3) = true := by kernel_rfl
theorem fact11 : (Rows.readerNamesRow.named == Tryz.prog.varsNamed 3) = true := by kernel_rfl
theorem facts : joinedFacts Tryz.prog 3 Tryz.f3 Rows.readerNamesSpec Rows.readerNamesRow = true := by
  unfold joinedFacts
  with_reducible
    repeat' first | exact fact1 | exact fact2 | exact fact3 | exact fact4 | exact fact5 | exact fact6 | exact fact7 | exact fact8 | exact fact9 | exact fact10 | exact fact11 | apply and_t
  all_goals kernel_rfl
end Go.Proofs.YtkgnabjcogmobaaGreat
