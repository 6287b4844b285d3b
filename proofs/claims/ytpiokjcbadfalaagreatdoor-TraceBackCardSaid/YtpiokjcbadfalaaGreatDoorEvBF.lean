import Derived.Test.YtpiokjcbadfalaaGreatDoorEvAX
open Go Go.Proofs.YtpiokjcbadfalaaGreatDoor.Ev
namespace Go.Proofs.YtpiokjcbadfalaaGreatDoor.Tz
theorem adY : (pP jC).f a2D .empty = .val a6d a3R := by kernel_rfl
theorem adZ : (pP jC).f a2E .empty = .val a6e a3S := by kernel_rfl
theorem ae0 : (pP jC).f a2F .empty = .val a6f a3T := by kernel_rfl
end Go.Proofs.YtpiokjcbadfalaaGreatDoor.Tz
