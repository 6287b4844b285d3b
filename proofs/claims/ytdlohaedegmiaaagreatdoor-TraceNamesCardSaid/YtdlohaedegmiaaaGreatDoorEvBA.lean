import Derived.Test.YtdlohaedegmiaaaGreatDoorEvAX
open Go Go.Proofs.YtdlohaedegmiaaaGreatDoor.Ev
namespace Go.Proofs.YtdlohaedegmiaaaGreatDoor.Tz
theorem a4g : (fW dz).f vY .empty = .val xX wF := by kernel_rfl
theorem a4h : (fW dz).f vZ .empty = .val xY wG := by kernel_rfl
theorem a4i : (fW dz).f w7 .empty = .val xZ wH := by kernel_rfl
end Go.Proofs.YtdlohaedegmiaaaGreatDoor.Tz
