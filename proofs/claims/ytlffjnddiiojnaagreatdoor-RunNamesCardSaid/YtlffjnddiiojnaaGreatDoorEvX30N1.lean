import Derived.Test.YtlffjnddiiojnaaGreatDoorEvI
/- Values of functions. -/
open Go Go.Proofs.YtlffjnddiiojnaaGreatDoor.Ev
namespace Go.Proofs.YtlffjnddiiojnaaGreatDoor.Tz
theorem e30_36 : (cptF q30).f a30_36 .empty = .val v30_36 h30_36 := by kernel_rfl
theorem e30_38 : (cptF q30).f a30_38 .empty = .val v30_38 h30_38 := by kernel_rfl
theorem e30_40 : (cptF q30).f a30_40 .empty = .val v30_40 h30_40 := by kernel_rfl
theorem e30_42 : (cptF q30).f a30_42 .empty = .val v30_42 h30_42 := by kernel_rfl
theorem e30_43 : (cptF q30).f a30_43 .empty = .val v30_43 h30_43 := by kernel_rfl
theorem e30_45 : (cptF q30).f a30_45 .empty = .val v30_45 h30_45 := by kernel_rfl
theorem e30_47 : (cptF q30).f a30_47 .empty = .val v30_47 h30_47 := by kernel_rfl
theorem e30_49 : (cptF q30).f a30_49 .empty = .val v30_49 h30_49 := by kernel_rfl
theorem e30_51 : (cptF q30).f a30_51 .empty = .val v30_51 h30_51 := by kernel_rfl
theorem e30_53 : (cptF q30).f a30_53 .empty = .val v30_53 h30_53 := by kernel_rfl
theorem e30_55 : (cptF q30).f a30_55 .empty = .val v30_55 h30_55 := by kernel_rfl
theorem e30_64 : (cptF q30).f a30_64 .empty = .val v30_64 h30_64 := by kernel_rfl
end Go.Proofs.YtlffjnddiiojnaaGreatDoor.Tz
