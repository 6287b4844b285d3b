import Derived.Test.YtlffjnddiiojnaaGreatDoorEvI
/- Values of functions. -/
open Go Go.Proofs.YtlffjnddiiojnaaGreatDoor.Ev
namespace Go.Proofs.YtlffjnddiiojnaaGreatDoor.Tz
theorem e57_121 : (cptF q57).f a57_121 .empty = .val v57_121 h57_121 := by kernel_rfl
theorem e57_123 : (cptF q57).f a57_123 .empty = .val v57_123 h57_123 := by kernel_rfl
theorem e57_125 : (cptF q57).f a57_125 .empty = .val v57_125 h57_125 := by kernel_rfl
theorem e57_127 : (cptF q57).f a57_127 .empty = .val v57_127 h57_127 := by kernel_rfl
theorem e57_129 : (cptF q57).f a57_129 .empty = .val v57_129 h57_129 := by kernel_rfl
theorem e57_131 : (cptF q57).f a57_131 .empty = .val v57_131 h57_131 := by kernel_rfl
theorem e57_133 : (cptF q57).f a57_133 .empty = .val v57_133 h57_133 := by kernel_rfl
theorem e57_135 : (cptF q57).f a57_135 .empty = .val v57_135 h57_135 := by kernel_rfl
theorem e57_137 : (cptF q57).f a57_137 .empty = .val v57_137 h57_137 := by kernel_rfl
theorem e57_139 : (cptF q57).f a57_139 .empty = .val v57_139 h57_139 := by kernel_rfl
theorem e57_141 : (cptF q57).f a57_141 .empty = .val v57_141 h57_141 := by kernel_rfl
theorem e57_143 : (cptF q57).f a57_143 .empty = .val v57_143 h57_143 := by kernel_rfl
theorem e57_145 : (cptF q57).f a57_145 .empty = .val v57_145 h57_145 := by kernel_rfl
theorem e57_147 : (cptF q57).f a57_147 .empty = .val v57_147 h57_147 := by kernel_rfl
theorem e57_149 : (cptF q57).f a57_149 .empty = .val v57_149 h57_149 := by kernel_rfl
theorem e57_151 : (cptF q57).f a57_151 .empty = .val v57_151 h57_151 := by kernel_rfl
theorem e57_153 : (cptF q57).f a57_153 .empty = .val v57_153 h57_153 := by kernel_rfl
theorem e57_155 : (cptF q57).f a57_155 .empty = .val v57_155 h57_155 := by kernel_rfl
end Go.Proofs.YtlffjnddiiojnaaGreatDoor.Tz
