import Derived.Test.YtlffjnddiiojnaaGreatDoorEvI
/- Values of functions. -/
open Go Go.Proofs.YtlffjnddiiojnaaGreatDoor.Ev
namespace Go.Proofs.YtlffjnddiiojnaaGreatDoor.Tz
theorem e57_193 : (cptF q57).f a57_193 .empty = .val v57_193 h57_193 := by kernel_rfl
theorem e57_195 : (cptF q57).f a57_195 .empty = .val v57_195 h57_195 := by kernel_rfl
theorem e57_197 : (cptF q57).f a57_197 .empty = .val v57_197 h57_197 := by kernel_rfl
theorem e57_199 : (cptF q57).f a57_199 .empty = .val v57_199 h57_199 := by kernel_rfl
theorem e57_201 : (cptF q57).f a57_201 .empty = .val v57_201 h57_201 := by kernel_rfl
theorem e57_203 : (cptF q57).f a57_203 .empty = .val v57_203 h57_203 := by kernel_rfl
theorem e57_205 : (cptF q57).f a57_205 .empty = .val v57_205 h57_205 := by kernel_rfl
theorem e57_207 : (cptF q57).f a57_207 .empty = .val v57_207 h57_207 := by kernel_rfl
theorem e57_209 : (cptF q57).f a57_209 .empty = .val v57_209 h57_209 := by kernel_rfl
theorem e57_211 : (cptF q57).f a57_211 .empty = .val v57_211 h57_211 := by kernel_rfl
theorem e57_213 : (cptF q57).f a57_213 .empty = .val v57_213 h57_213 := by kernel_rfl
theorem e57_215 : (cptF q57).f a57_215 .empty = .val v57_215 h57_215 := by kernel_rfl
theorem e57_217 : (cptF q57).f a57_217 .empty = .val v57_217 h57_217 := by kernel_rfl
theorem e57_219 : (cptF q57).f a57_219 .empty = .val v57_219 h57_219 := by kernel_rfl
theorem e57_221 : (cptF q57).f a57_221 .empty = .val v57_221 h57_221 := by kernel_rfl
theorem e57_223 : (cptF q57).f a57_223 .empty = .val v57_223 h57_223 := by kernel_rfl
theorem e57_225 : (cptF q57).f a57_225 .empty = .val v57_225 h57_225 := by kernel_rfl
theorem e57_231 : (cptF q57).f a57_231 .empty = .val v57_231 h57_231 := by kernel_rfl
end Go.Proofs.YtlffjnddiiojnaaGreatDoor.Tz
