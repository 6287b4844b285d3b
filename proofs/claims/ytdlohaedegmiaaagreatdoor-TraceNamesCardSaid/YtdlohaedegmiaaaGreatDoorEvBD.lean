import Derived.Test.YtdlohaedegmiaaaGreatDoorEvAX
open Go Go.Proofs.YtdlohaedegmiaaaGreatDoor.Ev
namespace Go.Proofs.YtdlohaedegmiaaaGreatDoor.Tz
theorem a0B : (fW dz).f qp .empty = .val tE ru := by kernel_rfl
theorem a0C : (fW dz).f qq .empty = .val tF rv := by kernel_rfl
theorem a0D : (fW dz).f qs .empty = .val tG ry := by kernel_rfl
end Go.Proofs.YtdlohaedegmiaaaGreatDoor.Tz
