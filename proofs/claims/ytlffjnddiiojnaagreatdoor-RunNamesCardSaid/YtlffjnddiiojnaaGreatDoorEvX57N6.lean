import Derived.Test.YtlffjnddiiojnaaGreatDoorEvI
/- Values of functions. -/
open Go Go.Proofs.YtlffjnddiiojnaaGreatDoor.Ev
namespace Go.Proofs.YtlffjnddiiojnaaGreatDoor.Tz
theorem e57_232 : (cptF q57).f a57_232 .empty = .val v57_232 h57_232 := by kernel_rfl
theorem e57_234 : (cptF q57).f a57_234 .empty = .val v57_234 h57_234 := by kernel_rfl
theorem e57_236 : (cptF q57).f a57_236 .empty = .val v57_236 h57_236 := by kernel_rfl
theorem e57_238 : (cptF q57).f a57_238 .empty = .val v57_238 h57_238 := by kernel_rfl
theorem e57_240 : (cptF q57).f a57_240 .empty = .val v57_240 h57_240 := by kernel_rfl
theorem e57_242 : (cptF q57).f a57_242 .empty = .val v57_242 h57_242 := by kernel_rfl
theorem e57_244 : (cptF q57).f a57_244 .empty = .val v57_244 h57_244 := by kernel_rfl
theorem e57_246 : (cptF q57).f a57_246 .empty = .val v57_246 h57_246 := by kernel_rfl
theorem e57_253 : (cptF q57).f a57_253 .empty = .val v57_253 h57_253 := by kernel_rfl
theorem e57_254 : (cptF q57).f a57_254 .empty = .val v57_254 h57_254 := by kernel_rfl
theorem e57_256 : (cptF q57).f a57_256 .empty = .val v57_256 h57_256 := by kernel_rfl
theorem e57_258 : (cptF q57).f a57_258 .empty = .val v57_258 h57_258 := by kernel_rfl
theorem e57_260 : (cptF q57).f a57_260 .empty = .val v57_260 h57_260 := by kernel_rfl
theorem e57_262 : (cptF q57).f a57_262 .empty = .val v57_262 h57_262 := by kernel_rfl
theorem e57_264 : (cptF q57).f a57_264 .empty = .val v57_264 h57_264 := by kernel_rfl
theorem e57_266 : (cptF q57).f a57_266 .empty = .val v57_266 h57_266 := by kernel_rfl
theorem e57_268 : (cptF q57).f a57_268 .empty = .val v57_268 h57_268 := by kernel_rfl
theorem e57_270 : (cptF q57).f a57_270 .empty = .val v57_270 h57_270 := by kernel_rfl
end Go.Proofs.YtlffjnddiiojnaaGreatDoor.Tz
