import Derived.Test.YtlffjnddiiojnaaGreatDoorEvI
/- Values of functions. -/
open Go Go.Proofs.YtlffjnddiiojnaaGreatDoor.Ev
namespace Go.Proofs.YtlffjnddiiojnaaGreatDoor.Tz
theorem e18_251 : (cptF q18).f a18_251 .empty = .val v18_251 h18_251 := by kernel_rfl
theorem e18_303 : (cptF q18).f a18_303 .empty = .val v18_303 h18_303 := by kernel_rfl
theorem e18_305 : (cptF q18).f a18_305 .empty = .val v18_305 h18_305 := by kernel_rfl
theorem e18_311 : (cptF q18).f a18_311 .empty = .val v18_311 h18_311 := by kernel_rfl
theorem e5_2 : (cptF q5).f a5_2 .empty = .val v5_2 h5_2 := by kernel_rfl
theorem e5_29 : (cptF q5).f a5_29 .empty = .val v5_29 h5_29 := by kernel_rfl
theorem e5_61 : (cptF q5).f a5_61 .empty = .val v5_61 h5_61 := by kernel_rfl
theorem e5_93 : (cptF q5).f a5_93 .empty = .val v5_93 h5_93 := by kernel_rfl
theorem e5_230 : (cptF q5).f a5_230 .empty = .val v5_230 h5_230 := by kernel_rfl
theorem e5_252 : (cptF q5).f a5_252 .empty = .val v5_252 h5_252 := by kernel_rfl
theorem e5_283 : (cptF q5).f a5_283 .empty = .val v5_283 h5_283 := by kernel_rfl
theorem e5_304 : (cptF q5).f a5_304 .empty = .val v5_304 h5_304 := by kernel_rfl
end Go.Proofs.YtlffjnddiiojnaaGreatDoor.Tz
