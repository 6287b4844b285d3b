import Derived.Test.YtpiokjcbadfalaaGreatDoorEvAX
open Go Go.Proofs.YtpiokjcbadfalaaGreatDoor.Ev
namespace Go.Proofs.YtpiokjcbadfalaaGreatDoor.Tz
theorem aj6 : (pP jC).f a8J .empty = .val aaQ a9m := by kernel_rfl
theorem aj7 : (pP jC).f a8K .empty = .val aaR a9n := by kernel_rfl
theorem adU : (pP jC).f a2z .empty = .val a69 a3N := by kernel_rfl
end Go.Proofs.YtpiokjcbadfalaaGreatDoor.Tz
