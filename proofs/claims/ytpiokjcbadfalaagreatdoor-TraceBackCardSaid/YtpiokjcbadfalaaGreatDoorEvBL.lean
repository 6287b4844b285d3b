import Derived.Test.YtpiokjcbadfalaaGreatDoorEvAX
open Go Go.Proofs.YtpiokjcbadfalaaGreatDoor.Ev
namespace Go.Proofs.YtpiokjcbadfalaaGreatDoor.Tz
theorem adT : (pP kI).f a2y .empty = .val a68 a3M := by kernel_rfl
theorem adI : (pP agi).f a2n .empty = .val a5S a3B := by kernel_rfl
end Go.Proofs.YtpiokjcbadfalaaGreatDoor.Tz
