import Derived.Test.YtdlohaedegmiaaaGreatDoorEvAX
open Go Go.Proofs.YtdlohaedegmiaaaGreatDoor.Ev
namespace Go.Proofs.YtdlohaedegmiaaaGreatDoor.Tz
theorem a0y : (fW dz).f ql .empty = .val tB rp := by kernel_rfl
theorem a0z : (fW dz).f qm .empty = .val tC rq := by kernel_rfl
theorem a0A : (fW dz).f qo .empty = .val tD rr := by kernel_rfl
end Go.Proofs.YtdlohaedegmiaaaGreatDoor.Tz
