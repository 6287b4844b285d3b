import Derived.Test.YtpiokjcbadfalaaGreatDoorEvAX
open Go Go.Proofs.YtpiokjcbadfalaaGreatDoor.Ev
namespace Go.Proofs.YtpiokjcbadfalaaGreatDoor.Tz
theorem ae1 : (pP jC).f a2G .empty = .val a6g a3U := by kernel_rfl
theorem ae2 : (pP jC).f a2H .empty = .val a6h a3V := by kernel_rfl
theorem ae3 : (pP jC).f a2I .empty = .val a6i a3W := by kernel_rfl
end Go.Proofs.YtpiokjcbadfalaaGreatDoor.Tz
