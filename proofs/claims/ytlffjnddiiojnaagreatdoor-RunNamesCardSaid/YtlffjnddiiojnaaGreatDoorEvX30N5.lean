import Derived.Test.YtlffjnddiiojnaaGreatDoorEvI
/- Values of functions. -/
open Go Go.Proofs.YtlffjnddiiojnaaGreatDoor.Ev
namespace Go.Proofs.YtlffjnddiiojnaaGreatDoor.Tz
theorem e30_144 : (cptF q30).f a30_144 .empty = .val v30_144 h30_144 := by kernel_rfl
theorem e30_146 : (cptF q30).f a30_146 .empty = .val v30_146 h30_146 := by kernel_rfl
theorem e30_148 : (cptF q30).f a30_148 .empty = .val v30_148 h30_148 := by kernel_rfl
theorem e30_150 : (cptF q30).f a30_150 .empty = .val v30_150 h30_150 := by kernel_rfl
theorem e30_152 : (cptF q30).f a30_152 .empty = .val v30_152 h30_152 := by kernel_rfl
theorem e30_154 : (cptF q30).f a30_154 .empty = .val v30_154 h30_154 := by kernel_rfl
theorem e30_156 : (cptF q30).f a30_156 .empty = .val v30_156 h30_156 := by kernel_rfl
theorem e30_158 : (cptF q30).f a30_158 .empty = .val v30_158 h30_158 := by kernel_rfl
theorem e30_160 : (cptF q30).f a30_160 .empty = .val v30_160 h30_160 := by kernel_rfl
theorem e30_162 : (cptF q30).f a30_162 .empty = .val v30_162 h30_162 := by kernel_rfl
theorem e30_164 : (cptF q30).f a30_164 .empty = .val v30_164 h30_164 := by kernel_rfl
theorem e30_166 : (cptF q30).f a30_166 .empty = .val v30_166 h30_166 := by kernel_rfl
end Go.Proofs.YtlffjnddiiojnaaGreatDoor.Tz
