import Derived.Test.YtlffjnddiiojnaaGreatDoorEvI
/- Values of functions. -/
open Go Go.Proofs.YtlffjnddiiojnaaGreatDoor.Ev
namespace Go.Proofs.YtlffjnddiiojnaaGreatDoor.Tz
theorem e30_96 : (cptF q30).f a30_96 .empty = .val v30_96 h30_96 := by kernel_rfl
theorem e30_98 : (cptF q30).f a30_98 .empty = .val v30_98 h30_98 := by kernel_rfl
theorem e30_100 : (cptF q30).f a30_100 .empty = .val v30_100 h30_100 := by kernel_rfl
theorem e30_102 : (cptF q30).f a30_102 .empty = .val v30_102 h30_102 := by kernel_rfl
theorem e30_104 : (cptF q30).f a30_104 .empty = .val v30_104 h30_104 := by kernel_rfl
theorem e30_106 : (cptF q30).f a30_106 .empty = .val v30_106 h30_106 := by kernel_rfl
theorem e30_108 : (cptF q30).f a30_108 .empty = .val v30_108 h30_108 := by kernel_rfl
theorem e30_110 : (cptF q30).f a30_110 .empty = .val v30_110 h30_110 := by kernel_rfl
theorem e30_112 : (cptF q30).f a30_112 .empty = .val v30_112 h30_112 := by kernel_rfl
theorem e30_114 : (cptF q30).f a30_114 .empty = .val v30_114 h30_114 := by kernel_rfl
theorem e30_116 : (cptF q30).f a30_116 .empty = .val v30_116 h30_116 := by kernel_rfl
theorem e30_118 : (cptF q30).f a30_118 .empty = .val v30_118 h30_118 := by kernel_rfl
end Go.Proofs.YtlffjnddiiojnaaGreatDoor.Tz
