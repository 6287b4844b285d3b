import Derived.Test.YtlffjnddiiojnaaGreatDoorEvI
/- Values of functions. -/
open Go Go.Proofs.YtlffjnddiiojnaaGreatDoor.Ev
namespace Go.Proofs.YtlffjnddiiojnaaGreatDoor.Tz
theorem e30_245 : (cptF q30).f a30_245 .empty = .val v30_245 h30_245 := by kernel_rfl
theorem e30_247 : (cptF q30).f a30_247 .empty = .val v30_247 h30_247 := by kernel_rfl
theorem e30_255 : (cptF q30).f a30_255 .empty = .val v30_255 h30_255 := by kernel_rfl
theorem e30_257 : (cptF q30).f a30_257 .empty = .val v30_257 h30_257 := by kernel_rfl
theorem e30_259 : (cptF q30).f a30_259 .empty = .val v30_259 h30_259 := by kernel_rfl
theorem e30_261 : (cptF q30).f a30_261 .empty = .val v30_261 h30_261 := by kernel_rfl
theorem e30_263 : (cptF q30).f a30_263 .empty = .val v30_263 h30_263 := by kernel_rfl
theorem e30_265 : (cptF q30).f a30_265 .empty = .val v30_265 h30_265 := by kernel_rfl
theorem e30_267 : (cptF q30).f a30_267 .empty = .val v30_267 h30_267 := by kernel_rfl
theorem e30_269 : (cptF q30).f a30_269 .empty = .val v30_269 h30_269 := by kernel_rfl
theorem e30_271 : (cptF q30).f a30_271 .empty = .val v30_271 h30_271 := by kernel_rfl
theorem e30_273 : (cptF q30).f a30_273 .empty = .val v30_273 h30_273 := by kernel_rfl
end Go.Proofs.YtlffjnddiiojnaaGreatDoor.Tz
