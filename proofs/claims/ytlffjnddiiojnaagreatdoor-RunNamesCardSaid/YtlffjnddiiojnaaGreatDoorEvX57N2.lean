import Derived.Test.YtlffjnddiiojnaaGreatDoorEvI
/- Values of functions. -/
open Go Go.Proofs.YtlffjnddiiojnaaGreatDoor.Ev
namespace Go.Proofs.YtlffjnddiiojnaaGreatDoor.Tz
theorem e57_81 : (cptF q57).f a57_81 .empty = .val v57_81 h57_81 := by kernel_rfl
theorem e57_83 : (cptF q57).f a57_83 .empty = .val v57_83 h57_83 := by kernel_rfl
theorem e57_85 : (cptF q57).f a57_85 .empty = .val v57_85 h57_85 := by kernel_rfl
theorem e57_87 : (cptF q57).f a57_87 .empty = .val v57_87 h57_87 := by kernel_rfl
theorem e57_94 : (cptF q57).f a57_94 .empty = .val v57_94 h57_94 := by kernel_rfl
theorem e57_95 : (cptF q57).f a57_95 .empty = .val v57_95 h57_95 := by kernel_rfl
theorem e57_97 : (cptF q57).f a57_97 .empty = .val v57_97 h57_97 := by kernel_rfl
theorem e57_99 : (cptF q57).f a57_99 .empty = .val v57_99 h57_99 := by kernel_rfl
theorem e57_101 : (cptF q57).f a57_101 .empty = .val v57_101 h57_101 := by kernel_rfl
theorem e57_103 : (cptF q57).f a57_103 .empty = .val v57_103 h57_103 := by kernel_rfl
theorem e57_105 : (cptF q57).f a57_105 .empty = .val v57_105 h57_105 := by kernel_rfl
theorem e57_107 : (cptF q57).f a57_107 .empty = .val v57_107 h57_107 := by kernel_rfl
theorem e57_109 : (cptF q57).f a57_109 .empty = .val v57_109 h57_109 := by kernel_rfl
theorem e57_111 : (cptF q57).f a57_111 .empty = .val v57_111 h57_111 := by kernel_rfl
theorem e57_113 : (cptF q57).f a57_113 .empty = .val v57_113 h57_113 := by kernel_rfl
theorem e57_115 : (cptF q57).f a57_115 .empty = .val v57_115 h57_115 := by kernel_rfl
theorem e57_117 : (cptF q57).f a57_117 .empty = .val v57_117 h57_117 := by kernel_rfl
theorem e57_119 : (cptF q57).f a57_119 .empty = .val v57_119 h57_119 := by kernel_rfl
end Go.Proofs.YtlffjnddiiojnaaGreatDoor.Tz
