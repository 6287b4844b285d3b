import Derived.Test.YtdlohaedegmiaaaGreatDoorRows
import Derived.SevenTiedAt
namespace Go.Proofs.YtdlohaedegmiaaaGreatDoor
open Go
theorem cd1 : Rows.traceNamesRow.wfByText (OpenSpec.ofChange Rows.traceNamesSpec) = true := by kernel_rfl
theorem cd2 : Tryz.pinned.checked.prog.mainIs = some (true, "9e0b57fda6a7d87b34b1ed83ff569ec22706681afc66bbbf2c1b2e61e04849fb".toList) := by kernel_rfl
theorem cd3 : Tryz.prog.funcNamed "wreckage/wreckagelaw45.TraceNames" = some 3 := by kernel_rfl
theorem cd4 : true = Tryz.pinned.checked.prog.looks [] := by kernel_rfl
theorem cd5 : false = Rows.traceNamesRow.goesBy Tryz.pinned.checked.prog := by kernel_rfl
end Go.Proofs.YtdlohaedegmiaaaGreatDoor
