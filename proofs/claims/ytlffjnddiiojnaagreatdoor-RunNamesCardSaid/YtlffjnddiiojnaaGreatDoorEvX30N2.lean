import Derived.Test.YtlffjnddiiojnaaGreatDoorEvI
/- Values of functions. -/
open Go Go.Proofs.YtlffjnddiiojnaaGreatDoor.Ev
namespace Go.Proofs.YtlffjnddiiojnaaGreatDoor.Tz
theorem e30_66 : (cptF q30).f a30_66 .empty = .val v30_66 h30_66 := by kernel_rfl
theorem e30_68 : (cptF q30).f a30_68 .empty = .val v30_68 h30_68 := by kernel_rfl
theorem e30_70 : (cptF q30).f a30_70 .empty = .val v30_70 h30_70 := by kernel_rfl
theorem e30_72 : (cptF q30).f a30_72 .empty = .val v30_72 h30_72 := by kernel_rfl
theorem e30_74 : (cptF q30).f a30_74 .empty = .val v30_74 h30_74 := by kernel_rfl
theorem e30_76 : (cptF q30).f a30_76 .empty = .val v30_76 h30_76 := by kernel_rfl
theorem e30_78 : (cptF q30).f a30_78 .empty = .val v30_78 h30_78 := by kernel_rfl
theorem e30_80 : (cptF q30).f a30_80 .empty = .val v30_80 h30_80 := by kernel_rfl
theorem e30_82 : (cptF q30).f a30_82 .empty = .val v30_82 h30_82 := by kernel_rfl
theorem e30_84 : (cptF q30).f a30_84 .empty = .val v30_84 h30_84 := by kernel_rfl
theorem e30_86 : (cptF q30).f a30_86 .empty = .val v30_86 h30_86 := by kernel_rfl
theorem e30_88 : (cptF q30).f a30_88 .empty = .val v30_88 h30_88 := by kernel_rfl
end Go.Proofs.YtlffjnddiiojnaaGreatDoor.Tz
