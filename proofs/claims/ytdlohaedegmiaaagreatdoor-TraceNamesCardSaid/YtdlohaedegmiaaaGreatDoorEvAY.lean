import Derived.Test.YtdlohaedegmiaaaGreatDoorEvAX
open Go Go.Proofs.YtdlohaedegmiaaaGreatDoor.Ev
namespace Go.Proofs.YtdlohaedegmiaaaGreatDoor.Tz
theorem a4k : (fW sG).f we .empty = .val y7 wK := by kernel_rfl
theorem a4l : (fW sG).f wg .empty = .val y8 wL := by kernel_rfl
theorem a0G : (fW sG).f qv .empty = .val tJ rB := by kernel_rfl
end Go.Proofs.YtdlohaedegmiaaaGreatDoor.Tz
