import Derived.Test.YtlffjnddiiojnaaGreatDoorRows
import Derived.SevenTiedAt
/- The closed facts of the card. -/
namespace Go.Proofs.YtlffjnddiiojnaaGreatDoor
open Go
theorem cd1 : Rows.runNamesRow.wfByText (OpenSpec.ofChange Rows.runNamesSpec) = true := by kernel_rfl
theorem cd2 : Tryz.pinned.checked.prog.mainIs = some (true, "80b7d7acf106ccde08b02d605696d822312913cd1857f367b5befebfa4054e9c".toList) := by kernel_rfl
theorem cd3 : Tryz.prog.funcNamed "wreckage/wreckagelaw23.RunNames" = some 3 := by kernel_rfl
theorem cd4 : true = Tryz.pinned.checked.prog.looks [] := by kernel_rfl
theorem cd5 : false = Rows.runNamesRow.goesBy Tryz.pinned.checked.prog := by kernel_rfl
end Go.Proofs.YtlffjnddiiojnaaGreatDoor
