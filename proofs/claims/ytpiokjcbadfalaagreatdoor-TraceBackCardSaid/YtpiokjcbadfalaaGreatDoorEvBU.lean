import Derived.Test.YtpiokjcbadfalaaGreatDoorRows
import Derived.SevenTiedAt
namespace Go.Proofs.YtpiokjcbadfalaaGreatDoor
open Go
theorem cd1 : Rows.traceBackRow.wfByText (OpenSpec.ofChange Rows.traceBackSpec) = true := by kernel_rfl
theorem cd2 : Tryz.pinned.checked.prog.mainIs = some (true,"3c9945cb55281378f579b29a40ec6765601f4053eaef404e0ac5cb6139493818".toList) := by kernel_rfl
theorem cd3 : Tryz.prog.funcNamed "wreckage/wreckagelaw45.TraceBack" = some 3 := by kernel_rfl
theorem cd4 : true = Tryz.pinned.checked.prog.looks [] := by kernel_rfl
theorem cd5 : false = Rows.traceBackRow.goesBy Tryz.pinned.checked.prog := by kernel_rfl
end Go.Proofs.YtpiokjcbadfalaaGreatDoor
