import Derived.Test.YtlffjnddiiojnaaGreatDoorEvI
/- Values of functions. -/
open Go Go.Proofs.YtlffjnddiiojnaaGreatDoor.Ev
namespace Go.Proofs.YtlffjnddiiojnaaGreatDoor.Tz
theorem e30_335 : (cptF q30).f a30_335 .empty = .val v30_335 h30_335 := by kernel_rfl
end Go.Proofs.YtlffjnddiiojnaaGreatDoor.Tz
