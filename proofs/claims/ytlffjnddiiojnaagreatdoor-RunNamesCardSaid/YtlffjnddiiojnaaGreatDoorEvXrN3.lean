import Derived.Test.YtlffjnddiiojnaaGreatDoorEvI
/- Values of functions. -/
open Go Go.Proofs.YtlffjnddiiojnaaGreatDoor.Ev
namespace Go.Proofs.YtlffjnddiiojnaaGreatDoor.Tz
theorem e8_300 : (cptF q8).f a8_300 .empty = .val v8_300 h8_300 := by kernel_rfl
theorem e8_313 : (cptF q8).f a8_313 .empty = .val v8_313 h8_313 := by kernel_rfl
theorem e8_315 : (cptF q8).f a8_315 .empty = .val v8_315 h8_315 := by kernel_rfl
theorem e8_316 : (cptF q8).f a8_316 .empty = .val v8_316 h8_316 := by kernel_rfl
theorem e8_317 : (cptF q8).f a8_317 .empty = .val v8_317 h8_317 := by kernel_rfl
theorem e8_319 : (cptF q8).f a8_319 .empty = .val v8_319 h8_319 := by kernel_rfl
theorem e8_333 : (cptF q8).f a8_333 .empty = .val v8_333 h8_333 := by kernel_rfl
theorem e8_336 : (cptF q8).f a8_336 .empty = .val v8_336 h8_336 := by kernel_rfl
theorem e9_26 : (cptF q9).f a9_26 .empty = .val v9_26 h9_26 := by kernel_rfl
theorem e9_58 : (cptF q9).f a9_58 .empty = .val v9_58 h9_58 := by kernel_rfl
theorem e9_90 : (cptF q9).f a9_90 .empty = .val v9_90 h9_90 := by kernel_rfl
theorem e9_228 : (cptF q9).f a9_228 .empty = .val v9_228 h9_228 := by kernel_rfl
end Go.Proofs.YtlffjnddiiojnaaGreatDoor.Tz
