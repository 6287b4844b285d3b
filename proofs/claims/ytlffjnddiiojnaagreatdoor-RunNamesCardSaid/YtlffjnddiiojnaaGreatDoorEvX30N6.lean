import Derived.Test.YtlffjnddiiojnaaGreatDoorEvI
/- Values of functions. -/
open Go Go.Proofs.YtlffjnddiiojnaaGreatDoor.Ev
namespace Go.Proofs.YtlffjnddiiojnaaGreatDoor.Tz
theorem e30_168 : (cptF q30).f a30_168 .empty = .val v30_168 h30_168 := by kernel_rfl
theorem e30_170 : (cptF q30).f a30_170 .empty = .val v30_170 h30_170 := by kernel_rfl
theorem e30_172 : (cptF q30).f a30_172 .empty = .val v30_172 h30_172 := by kernel_rfl
theorem e30_174 : (cptF q30).f a30_174 .empty = .val v30_174 h30_174 := by kernel_rfl
theorem e30_176 : (cptF q30).f a30_176 .empty = .val v30_176 h30_176 := by kernel_rfl
theorem e30_178 : (cptF q30).f a30_178 .empty = .val v30_178 h30_178 := by kernel_rfl
theorem e30_180 : (cptF q30).f a30_180 .empty = .val v30_180 h30_180 := by kernel_rfl
theorem e30_182 : (cptF q30).f a30_182 .empty = .val v30_182 h30_182 := by kernel_rfl
theorem e30_184 : (cptF q30).f a30_184 .empty = .val v30_184 h30_184 := by kernel_rfl
theorem e30_186 : (cptF q30).f a30_186 .empty = .val v30_186 h30_186 := by kernel_rfl
theorem e30_188 : (cptF q30).f a30_188 .empty = .val v30_188 h30_188 := by kernel_rfl
theorem e30_190 : (cptF q30).f a30_190 .empty = .val v30_190 h30_190 := by kernel_rfl
end Go.Proofs.YtlffjnddiiojnaaGreatDoor.Tz
