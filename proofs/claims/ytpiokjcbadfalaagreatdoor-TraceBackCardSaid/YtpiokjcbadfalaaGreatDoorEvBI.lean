import Derived.Test.YtpiokjcbadfalaaGreatDoorEvAX
open Go Go.Proofs.YtpiokjcbadfalaaGreatDoor.Ev
namespace Go.Proofs.YtpiokjcbadfalaaGreatDoor.Tz
theorem adK : (pP kI).f a2p .empty = .val a5U a3D := by kernel_rfl
theorem adL : (pP kI).f a2q .empty = .val a5V a3E := by kernel_rfl
theorem adM : (pP kI).f a2r .empty = .val a5W a3F := by kernel_rfl
end Go.Proofs.YtpiokjcbadfalaaGreatDoor.Tz
