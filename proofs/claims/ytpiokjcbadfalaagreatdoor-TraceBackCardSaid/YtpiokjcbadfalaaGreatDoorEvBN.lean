import Derived.Test.YtpiokjcbadfalaaGreatDoorEvAX
open Go Go.Proofs.YtpiokjcbadfalaaGreatDoor.Ev
namespace Go.Proofs.YtpiokjcbadfalaaGreatDoor.Tz
theorem ad4 : eJ (a5j.f .lf .empty) = some (.bool true) := by kernel_rfl
end Go.Proofs.YtpiokjcbadfalaaGreatDoor.Tz
