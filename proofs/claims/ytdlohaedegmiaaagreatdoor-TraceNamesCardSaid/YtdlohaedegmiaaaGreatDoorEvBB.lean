import Derived.Test.YtdlohaedegmiaaaGreatDoorEvAX
open Go Go.Proofs.YtdlohaedegmiaaaGreatDoor.Ev
namespace Go.Proofs.YtdlohaedegmiaaaGreatDoor.Tz
theorem a4j : (fW dz).f wc .empty = .val y6 wJ := by kernel_rfl
theorem a0w : (fW dz).f qj .empty = .val tz rm := by kernel_rfl
theorem a0x : (fW dz).f qk .empty = .val tA rn := by kernel_rfl
end Go.Proofs.YtdlohaedegmiaaaGreatDoor.Tz
