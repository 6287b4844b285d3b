import Derived.Test.YtpiokjcbadfalaaGreatDoorEvAX
open Go Go.Proofs.YtpiokjcbadfalaaGreatDoor.Ev
namespace Go.Proofs.YtpiokjcbadfalaaGreatDoor.Tz
theorem adV : (pP jC).f a2A .empty = .val a6a a3O := by kernel_rfl
theorem adW : (pP jC).f a2B .empty = .val a6b a3P := by kernel_rfl
theorem adX : (pP jC).f a2C .empty = .val a6c a3Q := by kernel_rfl
end Go.Proofs.YtpiokjcbadfalaaGreatDoor.Tz
