import Derived.Test.YtdlohaedegmiaaaGreatDoorEvAX
open Go Go.Proofs.YtdlohaedegmiaaaGreatDoor.Ev
namespace Go.Proofs.YtdlohaedegmiaaaGreatDoor.Tz
theorem a4f : (fW ed).f vX .empty = .val xW wE := by kernel_rfl
theorem a0l : (fW ed).f q8 .empty = .val tf qY := by kernel_rfl
theorem a0m : (fW ed).f q9 .empty = .val tg qZ := by kernel_rfl
end Go.Proofs.YtdlohaedegmiaaaGreatDoor.Tz
