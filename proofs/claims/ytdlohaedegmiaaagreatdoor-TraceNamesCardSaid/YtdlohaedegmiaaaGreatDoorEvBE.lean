import Derived.Test.YtdlohaedegmiaaaGreatDoorEvAX
open Go Go.Proofs.YtdlohaedegmiaaaGreatDoor.Ev
namespace Go.Proofs.YtdlohaedegmiaaaGreatDoor.Tz
theorem a0E : (fW dz).f qt .empty = .val tH rz := by kernel_rfl
theorem a0F : (fW dz).f qu .empty = .val tI rA := by kernel_rfl
theorem a4e : (fW ed).f vW .empty = .val xV wD := by kernel_rfl
end Go.Proofs.YtdlohaedegmiaaaGreatDoor.Tz
