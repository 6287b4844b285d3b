import Derived.Test.YtlffjnddiiojnaaGreatDoorEvI
/- Values of functions. -/
open Go Go.Proofs.YtlffjnddiiojnaaGreatDoor.Ev
namespace Go.Proofs.YtlffjnddiiojnaaGreatDoor.Tz
theorem e30_5 : (cptF q30).f a30_5 .empty = .val v30_5 h30_5 := by kernel_rfl
theorem e30_7 : (cptF q30).f a30_7 .empty = .val v30_7 h30_7 := by kernel_rfl
theorem e30_9 : (cptF q30).f a30_9 .empty = .val v30_9 h30_9 := by kernel_rfl
theorem e30_11 : (cptF q30).f a30_11 .empty = .val v30_11 h30_11 := by kernel_rfl
theorem e30_13 : (cptF q30).f a30_13 .empty = .val v30_13 h30_13 := by kernel_rfl
theorem e30_15 : (cptF q30).f a30_15 .empty = .val v30_15 h30_15 := by kernel_rfl
theorem e30_17 : (cptF q30).f a30_17 .empty = .val v30_17 h30_17 := by kernel_rfl
theorem e30_19 : (cptF q30).f a30_19 .empty = .val v30_19 h30_19 := by kernel_rfl
theorem e30_21 : (cptF q30).f a30_21 .empty = .val v30_21 h30_21 := by kernel_rfl
theorem e30_23 : (cptF q30).f a30_23 .empty = .val v30_23 h30_23 := by kernel_rfl
theorem e30_32 : (cptF q30).f a30_32 .empty = .val v30_32 h30_32 := by kernel_rfl
theorem e30_34 : (cptF q30).f a30_34 .empty = .val v30_34 h30_34 := by kernel_rfl
end Go.Proofs.YtlffjnddiiojnaaGreatDoor.Tz
