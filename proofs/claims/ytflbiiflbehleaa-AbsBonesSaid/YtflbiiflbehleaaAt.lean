import Derived.Test.YtflbiiflbehleaaBare
namespace Go.Proofs.Ytflbiiflbehleaa
open Go.RowKit
/-- A block that holds these cells. -/
def At (w : World) (b : Nat) (t : TypeId) (cs : Array Value) : Prop := w.heap[b]? = some (.cells cs t (0, 0))
theorem At.cell {w : World} {b : Nat} {t : TypeId} {cs : Array Value} (h : At w b t cs) (j : Nat) : w.cell? ⟨b, j, none⟩ = cs[j]? := by
  unfold At at h
  simp only [World.cell?, h]
  rfl
theorem At.free {w : World} {b : Nat} {t : TypeId} {cs : Array Value} (h : At w b t cs) (j : Nat) : w.frozen? ⟨b, j, none⟩ = false := by
  unfold At at h
  simp only [World.frozen?, h]
  simp
theorem At.lt {w : World} {b : Nat} {t : TypeId} {cs : Array Value} (h : At w b t cs) : b < w.heap.size := (Array.getElem?_eq_some_iff.1 h).1
theorem At.grow {w w' : World} {b : Nat} {t : TypeId} {cs : Array Value} (h : At w b t cs) (g : Grow w w') : At w' b t cs := by
  have := h.lt
  unfold At at *
  rw [g.block b this]; exact h
theorem At.keep {w w' : World} {b : Nat} {t : TypeId} {cs : Array Value} (h : At w b t cs) (g : w'.heap[b]? = w.heap[b]?) : At w' b t cs := g.trans h
theorem At.set {w : World} {b : Nat} {t : TypeId} {cs : Array Value} (h : At w b t cs) (j : Nat) (x : Value) : At (w.setCell ⟨b, j, none⟩ x) b t (cs.setIfInBounds j x) := by
  unfold At at *
  simp only [World.setCell, Array.getElem?_modify, h]
  simp
theorem At.other {w : World} {b : Nat} {t : TypeId} {cs : Array Value} (h : At w b t cs) {a : Addr} (ha : a.block ≠ b) (u : Value) : At (w.setCell a u) b t cs := by
  unfold At at *
  rw [Below.heap_setCell _ _ _ _ (Ne.symm ha)]; exact h
theorem At.new (w : World) (t : TypeId) (cs : Array Value) : At (w.alloc (.cells cs t)) w.heap.size t cs := by
  show (w.heap.push _)[w.heap.size]? = _
  simp
theorem At.new' {w : World} {b : Nat} {t : TypeId} {cs : Array Value} (h : b = w.heap.size) : At (w.alloc (.cells cs t)) b t cs := h ▸ At.new w t cs
theorem At.drew {w : World} {b : Nat} {t : TypeId} {cs : Array Value} (h : At w b t cs) : At w.drew b t cs := h
end Go.Proofs.Ytflbiiflbehleaa
