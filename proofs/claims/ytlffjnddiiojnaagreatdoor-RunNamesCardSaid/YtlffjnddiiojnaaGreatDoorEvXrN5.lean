import Derived.Test.YtlffjnddiiojnaaGreatDoorEvI
/- Values of functions. -/
open Go Go.Proofs.YtlffjnddiiojnaaGreatDoor.Ev
namespace Go.Proofs.YtlffjnddiiojnaaGreatDoor.Tz
theorem e11_338 : (cptF q11).f a11_338 .empty = .val v11_338 h11_338 := by kernel_rfl
theorem e140_339 : (cptF q140).f a140_339 .empty = .val v140_339 h140_339 := by kernel_rfl
theorem e140_340 : (cptF q140).f a140_340 .empty = .val v140_340 h140_340 := by kernel_rfl
theorem e80_341 : (cptF q80).f a80_341 .empty = .val v80_341 h80_341 := by kernel_rfl
theorem e80_342 : (cptF q80).f a80_342 .empty = .val v80_342 h80_342 := by kernel_rfl
theorem e80_343 : (cptF q80).f a80_343 .empty = .val v80_343 h80_343 := by kernel_rfl
theorem e80_344 : (cptF q80).f a80_344 .empty = .val v80_344 h80_344 := by kernel_rfl
theorem e80_345 : (cptF q80).f a80_345 .empty = .val v80_345 h80_345 := by kernel_rfl
theorem e80_346 : (cptF q80).f a80_346 .empty = .val v80_346 h80_346 := by kernel_rfl
theorem e80_347 : (cptF q80).f a80_347 .empty = .val v80_347 h80_347 := by kernel_rfl
end Go.Proofs.YtlffjnddiiojnaaGreatDoor.Tz
