import Derived.Test.YtlffjnddiiojnaaGreatDoorEvI
/- Values of functions. -/
open Go Go.Proofs.YtlffjnddiiojnaaGreatDoor.Ev
namespace Go.Proofs.YtlffjnddiiojnaaGreatDoor.Tz
theorem e9_249 : (cptF q9).f a9_249 .empty = .val v9_249 h9_249 := by kernel_rfl
theorem e9_281 : (cptF q9).f a9_281 .empty = .val v9_281 h9_281 := by kernel_rfl
theorem e9_298 : (cptF q9).f a9_298 .empty = .val v9_298 h9_298 := by kernel_rfl
theorem e9_301 : (cptF q9).f a9_301 .empty = .val v9_301 h9_301 := by kernel_rfl
theorem e9_320 : (cptF q9).f a9_320 .empty = .val v9_320 h9_320 := by kernel_rfl
theorem e9_321 : (cptF q9).f a9_321 .empty = .val v9_321 h9_321 := by kernel_rfl
theorem e9_322 : (cptF q9).f a9_322 .empty = .val v9_322 h9_322 := by kernel_rfl
theorem e9_323 : (cptF q9).f a9_323 .empty = .val v9_323 h9_323 := by kernel_rfl
theorem e9_334 : (cptF q9).f a9_334 .empty = .val v9_334 h9_334 := by kernel_rfl
theorem e9_337 : (cptF q9).f a9_337 .empty = .val v9_337 h9_337 := by kernel_rfl
theorem e4_302 : (cptF q4).f a4_302 .empty = .val v4_302 h4_302 := by kernel_rfl
theorem e7_310 : (cptF q7).f a7_310 .empty = .val v7_310 h7_310 := by kernel_rfl
end Go.Proofs.YtlffjnddiiojnaaGreatDoor.Tz
