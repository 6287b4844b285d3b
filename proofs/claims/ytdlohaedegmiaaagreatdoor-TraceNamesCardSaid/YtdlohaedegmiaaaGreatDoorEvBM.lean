import Derived.Test.YtdlohaedegmiaaaGreatDoorEvBK
import Derived.Test.YtdlohaedegmiaaaGreatDoorEvBL
open Go Go.Proofs.YtdlohaedegmiaaaGreatDoor.Ev
namespace Go.Proofs.YtdlohaedegmiaaaGreatDoor.Tz
theorem a3E (W : World) (h : GW 1 0 5 W) (hn : 11 ≤ W.heap.size) : Calls Go.Proofs.Tryz.prog 3 #[] W fun e w' => e = .returned (.bool true) ∧ bA W w' ∧ W.heap.size ≤ w'.heap.size ∧ ∀ B, B < W.heap.size → w'.heap[B]? = W.heap[B]? := vJ (V := V) adA tr3 W h hn
end Go.Proofs.YtdlohaedegmiaaaGreatDoor.Tz
