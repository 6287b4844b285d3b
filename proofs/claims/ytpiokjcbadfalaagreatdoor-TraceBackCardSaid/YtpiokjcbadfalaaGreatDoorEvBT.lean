import Derived.Test.YtpiokjcbadfalaaGreatDoorRows
import Derived.ProofKit
namespace Go.Proofs.YtpiokjcbadfalaaGreatDoor
theorem and_t {a b : Bool} (h : a = true) (k : b = true) : (a && b) = true := by rw [h,k]; rfl
theorem fact1 : laidOutB Tryz.prog = true := by kernel_rfl
theorem fact2 : mapsRowed Tryz.prog = true := by kernel_rfl
theorem fact3 : Tryz.prog.stopsHeard = true := by kernel_rfl
theorem fact4 : Tryz.prog.mayEnter = true := by kernel_rfl
theorem fact5 : (Rows.traceBackRow.lifted == Tryz.prog.liftsFinal) = true := by kernel_rfl
theorem fact6 : (Rows.traceBackRow.plainKeys == Tryz.prog.plainKeys) = true := by kernel_rfl
theorem fact7 : (Tryz.prog.make == some Rows.traceBackRow.make) = true := by kernel_rfl
theorem fact8 : (Rows.traceBackRow.inPlace == Tryz.prog.inPlace 3) = true := by kernel_rfl
theorem fact9 : (Rows.traceBackRow.unfollowed == Tryz.prog.unfollowed 3) = true := by kernel_rfl
theorem arp : (Rows.traceBackRow.recurses == Tryz.prog.recurses 3) = true := by kernel_rfl
theorem arq : (Rows.traceBackRow.named == Tryz.prog.varsNamed 3) = true := by kernel_rfl
theorem facts : joinedFacts Tryz.prog 3 Tryz.f3 Rows.traceBackSpec Rows.traceBackRow = true := by
  unfold joinedFacts
  with_reducible
    repeat' first | exact fact1 | exact fact2 | exact fact3 | exact fact4 | exact fact5 | exact fact6 | exact fact7 | exact fact8 | exact fact9 | exact arp | exact arq | apply and_t
  all_goals kernel_rfl
end Go.Proofs.YtpiokjcbadfalaaGreatDoor
