import Derived.Test.YtlffjnddiiojnaaGreatDoorEvK
/- The law comes to true. -/
open Go Go.Proofs.YtlffjnddiiojnaaGreatDoor.Ev
namespace Go.Proofs.YtlffjnddiiojnaaGreatDoor.Tz
theorem tr3 : isTrue (r3.f .lf .empty) = true := by kernel_rfl
theorem allTrue (W : World) (h : GW 4 2 W) (hn : 11 ≤ W.heap.size) : Calls Go.Proofs.Tryz.prog 3 #[] W fun e w' => e = .returned (.bool true) ∧ SameIo W w' ∧ W.heap.size ≤ w'.heap.size ∧ ∀ B, B < W.heap.size → w'.heap[B]? = W.heap[B]? := true_calls (V := V) kr3 tr3 W h hn
end Go.Proofs.YtlffjnddiiojnaaGreatDoor.Tz
