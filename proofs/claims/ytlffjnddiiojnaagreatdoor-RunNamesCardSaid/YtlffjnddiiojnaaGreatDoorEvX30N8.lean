import Derived.Test.YtlffjnddiiojnaaGreatDoorEvI
/- Values of functions. -/
open Go Go.Proofs.YtlffjnddiiojnaaGreatDoor.Ev
namespace Go.Proofs.YtlffjnddiiojnaaGreatDoor.Tz
theorem e30_216 : (cptF q30).f a30_216 .empty = .val v30_216 h30_216 := by kernel_rfl
theorem e30_218 : (cptF q30).f a30_218 .empty = .val v30_218 h30_218 := by kernel_rfl
theorem e30_220 : (cptF q30).f a30_220 .empty = .val v30_220 h30_220 := by kernel_rfl
theorem e30_222 : (cptF q30).f a30_222 .empty = .val v30_222 h30_222 := by kernel_rfl
theorem e30_224 : (cptF q30).f a30_224 .empty = .val v30_224 h30_224 := by kernel_rfl
theorem e30_226 : (cptF q30).f a30_226 .empty = .val v30_226 h30_226 := by kernel_rfl
theorem e30_233 : (cptF q30).f a30_233 .empty = .val v30_233 h30_233 := by kernel_rfl
theorem e30_235 : (cptF q30).f a30_235 .empty = .val v30_235 h30_235 := by kernel_rfl
theorem e30_237 : (cptF q30).f a30_237 .empty = .val v30_237 h30_237 := by kernel_rfl
theorem e30_239 : (cptF q30).f a30_239 .empty = .val v30_239 h30_239 := by kernel_rfl
theorem e30_241 : (cptF q30).f a30_241 .empty = .val v30_241 h30_241 := by kernel_rfl
theorem e30_243 : (cptF q30).f a30_243 .empty = .val v30_243 h30_243 := by kernel_rfl
end Go.Proofs.YtlffjnddiiojnaaGreatDoor.Tz
