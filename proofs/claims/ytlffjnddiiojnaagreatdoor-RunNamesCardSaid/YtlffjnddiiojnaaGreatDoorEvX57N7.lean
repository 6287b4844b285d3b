import Derived.Test.YtlffjnddiiojnaaGreatDoorEvI
/- Values of functions. -/
open Go Go.Proofs.YtlffjnddiiojnaaGreatDoor.Ev
namespace Go.Proofs.YtlffjnddiiojnaaGreatDoor.Tz
theorem e57_272 : (cptF q57).f a57_272 .empty = .val v57_272 h57_272 := by kernel_rfl
theorem e57_274 : (cptF q57).f a57_274 .empty = .val v57_274 h57_274 := by kernel_rfl
theorem e57_276 : (cptF q57).f a57_276 .empty = .val v57_276 h57_276 := by kernel_rfl
theorem e57_278 : (cptF q57).f a57_278 .empty = .val v57_278 h57_278 := by kernel_rfl
theorem e57_284 : (cptF q57).f a57_284 .empty = .val v57_284 h57_284 := by kernel_rfl
theorem e57_285 : (cptF q57).f a57_285 .empty = .val v57_285 h57_285 := by kernel_rfl
theorem e57_287 : (cptF q57).f a57_287 .empty = .val v57_287 h57_287 := by kernel_rfl
theorem e57_289 : (cptF q57).f a57_289 .empty = .val v57_289 h57_289 := by kernel_rfl
theorem e57_291 : (cptF q57).f a57_291 .empty = .val v57_291 h57_291 := by kernel_rfl
theorem e57_293 : (cptF q57).f a57_293 .empty = .val v57_293 h57_293 := by kernel_rfl
theorem e57_295 : (cptF q57).f a57_295 .empty = .val v57_295 h57_295 := by kernel_rfl
theorem e57_312 : (cptF q57).f a57_312 .empty = .val v57_312 h57_312 := by kernel_rfl
theorem e57_314 : (cptF q57).f a57_314 .empty = .val v57_314 h57_314 := by kernel_rfl
theorem e57_318 : (cptF q57).f a57_318 .empty = .val v57_318 h57_318 := by kernel_rfl
theorem e57_325 : (cptF q57).f a57_325 .empty = .val v57_325 h57_325 := by kernel_rfl
theorem e57_326 : (cptF q57).f a57_326 .empty = .val v57_326 h57_326 := by kernel_rfl
theorem e57_328 : (cptF q57).f a57_328 .empty = .val v57_328 h57_328 := by kernel_rfl
theorem e57_330 : (cptF q57).f a57_330 .empty = .val v57_330 h57_330 := by kernel_rfl
end Go.Proofs.YtlffjnddiiojnaaGreatDoor.Tz
