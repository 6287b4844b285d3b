import Derived.Test.YtflbiiflbehleaaBytes
import Derived.ProofKit
import Derived.Deep.Slices
namespace Go.Proofs.Ytflbiiflbehleaa
open Go.RowKit
theorem Try.underI3 : Try.prog.underlying 3 = some (.int .i64) := by kernel_rfl
theorem Try.ubool : Try.prog.underlying 4 = some .bool := by kernel_rfl
theorem Try.cu8 : Try.prog.cellsOf 5 = 1 := by kernel_rfl
set_option maxRecDepth 100000 in
theorem openBytes_arg {H : Type} {enc : TypeId × Value → H} {W : World} {base base' : Nat} {spare : Nat → Bool} {held : Bool} {v : Value} {d : DataW H} {p : List MemPlace} {r : Reach}
    (h : Value.okWide Try.prog W r base 27 v) (k : DataW.Trod enc Try.prog W base' spare held 27 v d p) : ∃ P C l, v = .slice P l.length C ∧ Byt W P C l := by
  obtain ⟨a0, len, cap, rfl⟩ := WideShapes.okWide_slice Try.usl h
  obtain ⟨fuel, k⟩ := k
  rcases Deep.open_slice1 Try.usl Try.cu8 k with ⟨e, _⟩ | ⟨a, len', cap', m, n, V, D, Pl, e, _, hl, hm, hmm, _, hx⟩
  · simp [Value.cells] at e
    obtain ⟨rfl, rfl, rfl⟩ := e
    exact ⟨none, 0, [], rfl, .inl ⟨rfl, rfl, rfl⟩⟩
  · simp [Value.cells] at e
    obtain ⟨rfl, rfl, rfl⟩ := e
    have hle : len ≤ m := by rw [hmm]; split <;> omega
    refine ⟨some a, cap, (List.range len).map fun i => intOf (V i), by simp, .inr ⟨a, rfl, by simpa using hl, hm, fun j u hj => ?_⟩⟩
    have hjl : j < len := by
      have := (List.getElem?_eq_some_iff.1 hj).1
      simpa [bcs] using this
    obtain ⟨h1, h2⟩ := hx j (by omega)
    obtain ⟨z, e, _, _⟩ := DataW.trod_int Try.uu8 h2
    simp only [List.cons.injEq, and_true] at e
    rw [h1, e]
    rw [bcs_get, List.getElem?_map, List.getElem?_range hjl] at hj
    simp only [Option.map_some, Option.some.injEq] at hj
    rw [← hj, e]
    rfl
end Go.Proofs.Ytflbiiflbehleaa
