import Derived.Test.YtpiokjcbadfalaaGreatDoorEvAX
open Go Go.Proofs.YtpiokjcbadfalaaGreatDoor.Ev
namespace Go.Proofs.YtpiokjcbadfalaaGreatDoor.Tz
theorem adN : (pP kI).f a2s .empty = .val a5X a3G := by kernel_rfl
theorem adO : (pP kI).f a2t .empty = .val a5Y a3H := by kernel_rfl
theorem adP : (pP kI).f a2u .empty = .val a5Z a3I := by kernel_rfl
end Go.Proofs.YtpiokjcbadfalaaGreatDoor.Tz
