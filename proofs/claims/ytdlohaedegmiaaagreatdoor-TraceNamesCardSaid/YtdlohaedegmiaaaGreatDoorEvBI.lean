import Derived.Test.YtdlohaedegmiaaaGreatDoorEvAX
open Go Go.Proofs.YtdlohaedegmiaaaGreatDoor.Ev
namespace Go.Proofs.YtdlohaedegmiaaaGreatDoor.Tz
theorem a0t : (fW ed).f qg .empty = .val tu rj := by kernel_rfl
theorem a0u : (fW ed).f qh .empty = .val tv rk := by kernel_rfl
theorem a0v : (fW ed).f qi .empty = .val tw rl := by kernel_rfl
end Go.Proofs.YtdlohaedegmiaaaGreatDoor.Tz
