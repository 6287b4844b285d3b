import Derived.Test.YtpiokjcbadfalaaGreatDoorEvAX
open Go Go.Proofs.YtpiokjcbadfalaaGreatDoor.Ev
namespace Go.Proofs.YtpiokjcbadfalaaGreatDoor.Tz
theorem adQ : (pP kI).f a2v .empty = .val a61 a3J := by kernel_rfl
theorem adR : (pP kI).f a2w .empty = .val a62 a3K := by kernel_rfl
theorem adS : (pP kI).f a2x .empty = .val a65 a3L := by kernel_rfl
end Go.Proofs.YtpiokjcbadfalaaGreatDoor.Tz
