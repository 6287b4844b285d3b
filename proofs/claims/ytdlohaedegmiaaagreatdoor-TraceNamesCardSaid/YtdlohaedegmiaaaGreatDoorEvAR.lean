import Derived.Test.YtdlohaedegmiaaaGreatDoorRows
import Derived.ProofKit
namespace Go.Proofs.YtdlohaedegmiaaaGreatDoor
theorem and_t {a b : Bool} (h : a = true) (k : b = true) : (a && b) = true := by rw [h, k]; rfl
theorem fact1 : laidOutB Tryz.prog = true := by kernel_rfl
theorem fact2 : mapsRowed Tryz.prog = true := by kernel_rfl
theorem fact3 : Tryz.prog.stopsHeard = true := by kernel_rfl
theorem fact4 : Tryz.prog.mayEnter = true := by kernel_rfl
theorem fact5 : (Rows.traceNamesRow.lifted == Tryz.prog.liftsFinal) = true := by kernel_rfl
theorem fact6 : (Rows.traceNamesRow.plainKeys == Tryz.prog.plainKeys) = true := by kernel_rfl
theorem fact7 : (Tryz.prog.make == some Rows.traceNamesRow.make) = true := by kernel_rfl
theorem fact8 : (Rows.traceNamesRow.inPlace == Tryz.prog.inPlace 3) = true := by kernel_rfl
theorem fact9 : (Rows.traceNamesRow.unfollowed == Tryz.prog.unfollowed 3) = true := by kernel_rfl
theorem abl : (Rows.traceNamesRow.recurses == Tryz.prog.recurses 3) = true := by kernel_rfl
theorem abm : (Rows.traceNamesRow.named == Tryz.prog.varsNamed 3) = true := by kernel_rfl
theorem facts : joinedFacts Tryz.prog 3 Tryz.f3 Rows.traceNamesSpec Rows.traceNamesRow = true := by
  unfold joinedFacts
  with_reducible
    repeat' first | exact fact1 | exact fact2 | exact fact3 | exact fact4 | exact fact5 | exact fact6 | exact fact7 | exact fact8 | exact fact9 | exact abl | exact abm | apply and_t
  all_goals kernel_rfl
end Go.Proofs.YtdlohaedegmiaaaGreatDoor
