import Derived.Test.YtdlohaedegmiaaaGreatDoorEvAX
open Go Go.Proofs.YtdlohaedegmiaaaGreatDoor.Ev
namespace Go.Proofs.YtdlohaedegmiaaaGreatDoor.Tz
theorem a4c : (fW a2f).f vU .empty = .val xT wB := by kernel_rfl
theorem a4d : (fW wZ).f vV .empty = .val xU wC := by kernel_rfl
theorem a0k : (fW wZ).f pZ .empty = .val td qX := by kernel_rfl
end Go.Proofs.YtdlohaedegmiaaaGreatDoor.Tz
