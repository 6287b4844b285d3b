import Derived.Test.YtdlohaedegmiaaaGreatDoorEvAO
import Derived.Test.YtdlohaedegmiaaaGreatDoorEvAX
open Go Go.Proofs.YtdlohaedegmiaaaGreatDoor.Ev
namespace Go.Proofs.YtdlohaedegmiaaaGreatDoor.Tz
theorem tr3 : isTrue (a7L.f .lf .empty) = true := by kernel_rfl
end Go.Proofs.YtdlohaedegmiaaaGreatDoor.Tz
