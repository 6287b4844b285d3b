import Derived.Test.YtlffjnddiiojnaaGreatDoorEvI
/- Values of functions. -/
open Go Go.Proofs.YtlffjnddiiojnaaGreatDoor.Ev
namespace Go.Proofs.YtlffjnddiiojnaaGreatDoor.Tz
theorem e57_157 : (cptF q57).f a57_157 .empty = .val v57_157 h57_157 := by kernel_rfl
theorem e57_159 : (cptF q57).f a57_159 .empty = .val v57_159 h57_159 := by kernel_rfl
theorem e57_161 : (cptF q57).f a57_161 .empty = .val v57_161 h57_161 := by kernel_rfl
theorem e57_163 : (cptF q57).f a57_163 .empty = .val v57_163 h57_163 := by kernel_rfl
theorem e57_165 : (cptF q57).f a57_165 .empty = .val v57_165 h57_165 := by kernel_rfl
theorem e57_167 : (cptF q57).f a57_167 .empty = .val v57_167 h57_167 := by kernel_rfl
theorem e57_169 : (cptF q57).f a57_169 .empty = .val v57_169 h57_169 := by kernel_rfl
theorem e57_171 : (cptF q57).f a57_171 .empty = .val v57_171 h57_171 := by kernel_rfl
theorem e57_173 : (cptF q57).f a57_173 .empty = .val v57_173 h57_173 := by kernel_rfl
theorem e57_175 : (cptF q57).f a57_175 .empty = .val v57_175 h57_175 := by kernel_rfl
theorem e57_177 : (cptF q57).f a57_177 .empty = .val v57_177 h57_177 := by kernel_rfl
theorem e57_179 : (cptF q57).f a57_179 .empty = .val v57_179 h57_179 := by kernel_rfl
theorem e57_181 : (cptF q57).f a57_181 .empty = .val v57_181 h57_181 := by kernel_rfl
theorem e57_183 : (cptF q57).f a57_183 .empty = .val v57_183 h57_183 := by kernel_rfl
theorem e57_185 : (cptF q57).f a57_185 .empty = .val v57_185 h57_185 := by kernel_rfl
theorem e57_187 : (cptF q57).f a57_187 .empty = .val v57_187 h57_187 := by kernel_rfl
theorem e57_189 : (cptF q57).f a57_189 .empty = .val v57_189 h57_189 := by kernel_rfl
theorem e57_191 : (cptF q57).f a57_191 .empty = .val v57_191 h57_191 := by kernel_rfl
end Go.Proofs.YtlffjnddiiojnaaGreatDoor.Tz
