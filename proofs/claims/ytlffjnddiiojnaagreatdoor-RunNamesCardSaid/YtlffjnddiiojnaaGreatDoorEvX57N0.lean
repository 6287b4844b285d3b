import Derived.Test.YtlffjnddiiojnaaGreatDoorEvI
/- Values of functions. -/
open Go Go.Proofs.YtlffjnddiiojnaaGreatDoor.Ev
namespace Go.Proofs.YtlffjnddiiojnaaGreatDoor.Tz
theorem e57_3 : (cptF q57).f a57_3 .empty = .val v57_3 h57_3 := by kernel_rfl
theorem e57_4 : (cptF q57).f a57_4 .empty = .val v57_4 h57_4 := by kernel_rfl
theorem e57_6 : (cptF q57).f a57_6 .empty = .val v57_6 h57_6 := by kernel_rfl
theorem e57_8 : (cptF q57).f a57_8 .empty = .val v57_8 h57_8 := by kernel_rfl
theorem e57_10 : (cptF q57).f a57_10 .empty = .val v57_10 h57_10 := by kernel_rfl
theorem e57_12 : (cptF q57).f a57_12 .empty = .val v57_12 h57_12 := by kernel_rfl
theorem e57_14 : (cptF q57).f a57_14 .empty = .val v57_14 h57_14 := by kernel_rfl
theorem e57_16 : (cptF q57).f a57_16 .empty = .val v57_16 h57_16 := by kernel_rfl
theorem e57_18 : (cptF q57).f a57_18 .empty = .val v57_18 h57_18 := by kernel_rfl
theorem e57_20 : (cptF q57).f a57_20 .empty = .val v57_20 h57_20 := by kernel_rfl
theorem e57_22 : (cptF q57).f a57_22 .empty = .val v57_22 h57_22 := by kernel_rfl
theorem e57_24 : (cptF q57).f a57_24 .empty = .val v57_24 h57_24 := by kernel_rfl
theorem e57_30 : (cptF q57).f a57_30 .empty = .val v57_30 h57_30 := by kernel_rfl
theorem e57_31 : (cptF q57).f a57_31 .empty = .val v57_31 h57_31 := by kernel_rfl
theorem e57_33 : (cptF q57).f a57_33 .empty = .val v57_33 h57_33 := by kernel_rfl
theorem e57_35 : (cptF q57).f a57_35 .empty = .val v57_35 h57_35 := by kernel_rfl
theorem e57_37 : (cptF q57).f a57_37 .empty = .val v57_37 h57_37 := by kernel_rfl
theorem e57_39 : (cptF q57).f a57_39 .empty = .val v57_39 h57_39 := by kernel_rfl
end Go.Proofs.YtlffjnddiiojnaaGreatDoor.Tz
