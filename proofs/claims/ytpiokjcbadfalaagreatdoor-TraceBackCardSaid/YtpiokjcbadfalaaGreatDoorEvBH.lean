import Derived.Test.YtpiokjcbadfalaaGreatDoorEvAX
open Go Go.Proofs.YtpiokjcbadfalaaGreatDoor.Ev
namespace Go.Proofs.YtpiokjcbadfalaaGreatDoor.Tz
theorem aj2 : (pP kI).f a8F .empty = .val aaM a9i := by kernel_rfl
theorem aj3 : (pP kI).f a8G .empty = .val aaN a9j := by kernel_rfl
theorem adJ : (pP kI).f a2o .empty = .val a5T a3C := by kernel_rfl
end Go.Proofs.YtpiokjcbadfalaaGreatDoor.Tz
