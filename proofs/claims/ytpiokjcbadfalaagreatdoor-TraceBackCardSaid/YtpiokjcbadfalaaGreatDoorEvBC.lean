import Derived.Test.YtpiokjcbadfalaaGreatDoorEvAX
open Go Go.Proofs.YtpiokjcbadfalaaGreatDoor.Ev
namespace Go.Proofs.YtpiokjcbadfalaaGreatDoor.Tz
theorem aj1 : (pP agj).f a8E .empty = .val aaL a9h := by kernel_rfl
theorem aj4 : (pP jC).f a8H .empty = .val aaO a9k := by kernel_rfl
theorem aj5 : (pP jC).f a8I .empty = .val aaP a9l := by kernel_rfl
end Go.Proofs.YtpiokjcbadfalaaGreatDoor.Tz
