import Derived.Test.YtpiokjcbadfalaaGreatDoorEvAX
open Go Go.Proofs.YtpiokjcbadfalaaGreatDoor.Ev
namespace Go.Proofs.YtpiokjcbadfalaaGreatDoor.Tz
theorem aj8 : (pP aa2).f a8L .empty = .val aaS a9o := by kernel_rfl
theorem aj9 : (pP aa2).f a8M .empty = .val aaT a9p := by kernel_rfl
theorem aj0 : (pP agh).f a8D .empty = .val aaK a9g := by kernel_rfl
end Go.Proofs.YtpiokjcbadfalaaGreatDoor.Tz
