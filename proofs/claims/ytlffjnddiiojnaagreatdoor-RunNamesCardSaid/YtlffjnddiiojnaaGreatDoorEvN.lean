import Derived.Test.YtlffjnddiiojnaaGreatDoorRows
import Derived.ProofKit
/- The closed facts of the row. -/
namespace Go.Proofs.YtlffjnddiiojnaaGreatDoor
theorem and_t {a b : Bool} (h : a = true) (k : b = true) : (a && b) = true := by rw [h, k]; rfl
theorem fact1 : laidOutB Tryz.prog = true := by kernel_rfl
theorem fact2 : mapsRowed Tryz.prog = true := by kernel_rfl
theorem fact3 : Tryz.prog.stopsHeard = true := by kernel_rfl
theorem fact4 : Tryz.prog.mayEnter = true := by kernel_rfl
theorem fact5 : (Rows.runNamesRow.lifted == Tryz.prog.liftsFinal) = true := by kernel_rfl
theorem fact6 : (Rows.runNamesRow.plainKeys == Tryz.prog.plainKeys) = true := by kernel_rfl
theorem fact7 : (Tryz.prog.make == some Rows.runNamesRow.make) = true := by kernel_rfl
theorem fact8 : (Rows.runNamesRow.inPlace == Tryz.prog.inPlace 3) = true := by kernel_rfl
theorem fact9 : (Rows.runNamesRow.unfollowed == Tryz.prog.unfollowed 3) = true := by kernel_rfl
theorem fact10 : (Rows.runNamesRow.recurses == Tryz.prog.recurses 3) = true := by kernel_rfl
theorem fact11 : (Rows.runNamesRow.named == Tryz.prog.varsNamed 3) = true := by kernel_rfl
theorem facts : joinedFacts Tryz.prog 3 Tryz.f3 Rows.runNamesSpec Rows.runNamesRow = true := by
  unfold joinedFacts
  with_reducible
    repeat' first | exact fact1 | exact fact2 | exact fact3 | exact fact4 | exact fact5 | exact fact6 | exact fact7 | exact fact8 | exact fact9 | exact fact10 | exact fact11 | apply and_t
  all_goals kernel_rfl
end Go.Proofs.YtlffjnddiiojnaaGreatDoor
