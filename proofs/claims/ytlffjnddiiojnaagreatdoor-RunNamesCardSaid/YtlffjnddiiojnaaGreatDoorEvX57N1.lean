import Derived.Test.YtlffjnddiiojnaaGreatDoorEvI
/- Values of functions. -/
open Go Go.Proofs.YtlffjnddiiojnaaGreatDoor.Ev
namespace Go.Proofs.YtlffjnddiiojnaaGreatDoor.Tz
theorem e57_41 : (cptF q57).f a57_41 .empty = .val v57_41 h57_41 := by kernel_rfl
theorem e57_44 : (cptF q57).f a57_44 .empty = .val v57_44 h57_44 := by kernel_rfl
theorem e57_46 : (cptF q57).f a57_46 .empty = .val v57_46 h57_46 := by kernel_rfl
theorem e57_48 : (cptF q57).f a57_48 .empty = .val v57_48 h57_48 := by kernel_rfl
theorem e57_50 : (cptF q57).f a57_50 .empty = .val v57_50 h57_50 := by kernel_rfl
theorem e57_52 : (cptF q57).f a57_52 .empty = .val v57_52 h57_52 := by kernel_rfl
theorem e57_54 : (cptF q57).f a57_54 .empty = .val v57_54 h57_54 := by kernel_rfl
theorem e57_56 : (cptF q57).f a57_56 .empty = .val v57_56 h57_56 := by kernel_rfl
theorem e57_62 : (cptF q57).f a57_62 .empty = .val v57_62 h57_62 := by kernel_rfl
theorem e57_63 : (cptF q57).f a57_63 .empty = .val v57_63 h57_63 := by kernel_rfl
theorem e57_65 : (cptF q57).f a57_65 .empty = .val v57_65 h57_65 := by kernel_rfl
theorem e57_67 : (cptF q57).f a57_67 .empty = .val v57_67 h57_67 := by kernel_rfl
theorem e57_69 : (cptF q57).f a57_69 .empty = .val v57_69 h57_69 := by kernel_rfl
theorem e57_71 : (cptF q57).f a57_71 .empty = .val v57_71 h57_71 := by kernel_rfl
theorem e57_73 : (cptF q57).f a57_73 .empty = .val v57_73 h57_73 := by kernel_rfl
theorem e57_75 : (cptF q57).f a57_75 .empty = .val v57_75 h57_75 := by kernel_rfl
theorem e57_77 : (cptF q57).f a57_77 .empty = .val v57_77 h57_77 := by kernel_rfl
theorem e57_79 : (cptF q57).f a57_79 .empty = .val v57_79 h57_79 := by kernel_rfl
end Go.Proofs.YtlffjnddiiojnaaGreatDoor.Tz
