import Derived.Test.YtlffjnddiiojnaaGreatDoorEvI
/- Values of functions. -/
open Go Go.Proofs.YtlffjnddiiojnaaGreatDoor.Ev
namespace Go.Proofs.YtlffjnddiiojnaaGreatDoor.Tz
theorem e30_120 : (cptF q30).f a30_120 .empty = .val v30_120 h30_120 := by kernel_rfl
theorem e30_122 : (cptF q30).f a30_122 .empty = .val v30_122 h30_122 := by kernel_rfl
theorem e30_124 : (cptF q30).f a30_124 .empty = .val v30_124 h30_124 := by kernel_rfl
theorem e30_126 : (cptF q30).f a30_126 .empty = .val v30_126 h30_126 := by kernel_rfl
theorem e30_128 : (cptF q30).f a30_128 .empty = .val v30_128 h30_128 := by kernel_rfl
theorem e30_130 : (cptF q30).f a30_130 .empty = .val v30_130 h30_130 := by kernel_rfl
theorem e30_132 : (cptF q30).f a30_132 .empty = .val v30_132 h30_132 := by kernel_rfl
theorem e30_134 : (cptF q30).f a30_134 .empty = .val v30_134 h30_134 := by kernel_rfl
theorem e30_136 : (cptF q30).f a30_136 .empty = .val v30_136 h30_136 := by kernel_rfl
theorem e30_138 : (cptF q30).f a30_138 .empty = .val v30_138 h30_138 := by kernel_rfl
theorem e30_140 : (cptF q30).f a30_140 .empty = .val v30_140 h30_140 := by kernel_rfl
theorem e30_142 : (cptF q30).f a30_142 .empty = .val v30_142 h30_142 := by kernel_rfl
end Go.Proofs.YtlffjnddiiojnaaGreatDoor.Tz
