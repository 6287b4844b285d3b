import Derived.Test.YtdlohaedegmiaaaGreatDoorEvAX
open Go Go.Proofs.YtdlohaedegmiaaaGreatDoor.Ev
namespace Go.Proofs.YtdlohaedegmiaaaGreatDoor.Tz
theorem a0n : (fW ed).f qa .empty = .val th r6 := by kernel_rfl
theorem a0o : (fW ed).f qb .empty = .val tj r8 := by kernel_rfl
theorem a0p : (fW ed).f qc .empty = .val tk re := by kernel_rfl
end Go.Proofs.YtdlohaedegmiaaaGreatDoor.Tz
