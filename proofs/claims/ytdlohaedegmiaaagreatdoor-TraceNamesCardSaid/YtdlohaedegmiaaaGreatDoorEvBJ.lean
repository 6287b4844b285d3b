import Derived.Test.YtdlohaedegmiaaaGreatDoorEvAX
open Go Go.Proofs.YtdlohaedegmiaaaGreatDoor.Ev
namespace Go.Proofs.YtdlohaedegmiaaaGreatDoor.Tz
theorem a0i : (fW wY).f pX .empty = .val sZ qV := by kernel_rfl
theorem a0j : (fW wY).f pY .empty = .val tc qW := by kernel_rfl
end Go.Proofs.YtdlohaedegmiaaaGreatDoor.Tz
