import Derived.Test.YtdlohaedegmiaaaGreatDoorEvAX
open Go Go.Proofs.YtdlohaedegmiaaaGreatDoor.Ev
namespace Go.Proofs.YtdlohaedegmiaaaGreatDoor.Tz
theorem a0q : (fW ed).f qd .empty = .val tm rf := by kernel_rfl
theorem a0r : (fW ed).f qe .empty = .val tn rh := by kernel_rfl
theorem a0s : (fW ed).f qf .empty = .val tq ri := by kernel_rfl
end Go.Proofs.YtdlohaedegmiaaaGreatDoor.Tz
