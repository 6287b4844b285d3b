import Derived.Test.YtlffjnddiiojnaaGreatDoorEvI
/- Values of functions. -/
open Go Go.Proofs.YtlffjnddiiojnaaGreatDoor.Ev
namespace Go.Proofs.YtlffjnddiiojnaaGreatDoor.Tz
theorem e57_332 : (cptF q57).f a57_332 .empty = .val v57_332 h57_332 := by kernel_rfl
end Go.Proofs.YtlffjnddiiojnaaGreatDoor.Tz
