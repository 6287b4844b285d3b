import Derived.Test.YtlffjnddiiojnaaGreatDoorEvI
/- Values of functions. -/
open Go Go.Proofs.YtlffjnddiiojnaaGreatDoor.Ev
namespace Go.Proofs.YtlffjnddiiojnaaGreatDoor.Tz
theorem e5_306 : (cptF q5).f a5_306 .empty = .val v5_306 h5_306 := by kernel_rfl
theorem e5_307 : (cptF q5).f a5_307 .empty = .val v5_307 h5_307 := by kernel_rfl
theorem e5_308 : (cptF q5).f a5_308 .empty = .val v5_308 h5_308 := by kernel_rfl
theorem e5_309 : (cptF q5).f a5_309 .empty = .val v5_309 h5_309 := by kernel_rfl
theorem e5_324 : (cptF q5).f a5_324 .empty = .val v5_324 h5_324 := by kernel_rfl
theorem e8_25 : (cptF q8).f a8_25 .empty = .val v8_25 h8_25 := by kernel_rfl
theorem e8_57 : (cptF q8).f a8_57 .empty = .val v8_57 h8_57 := by kernel_rfl
theorem e8_89 : (cptF q8).f a8_89 .empty = .val v8_89 h8_89 := by kernel_rfl
theorem e8_227 : (cptF q8).f a8_227 .empty = .val v8_227 h8_227 := by kernel_rfl
theorem e8_248 : (cptF q8).f a8_248 .empty = .val v8_248 h8_248 := by kernel_rfl
theorem e8_280 : (cptF q8).f a8_280 .empty = .val v8_280 h8_280 := by kernel_rfl
theorem e8_297 : (cptF q8).f a8_297 .empty = .val v8_297 h8_297 := by kernel_rfl
end Go.Proofs.YtlffjnddiiojnaaGreatDoor.Tz
