import Derived.Test.YtflbiiflbehleaaData
import Derived.Test.YtflbiiflbehleaaRows
import Derived.Laws.BytesArg
import Derived.Laws.AppendOwnNone
import Derived.Laws.CopyOwn
import Derived.Deep.AppendSrc
namespace Go.Proofs.Ytflbiiflbehleaa
open Go.RowKit
theorem Try.usl : Try.prog.underlying 27 = some (.slice 5) := by kernel_rfl
theorem Try.ustr : Try.prog.underlying 9 = some .string := by kernel_rfl
theorem Try.uu8 : Try.prog.underlying 5 = some (.int .u8) := by kernel_rfl
theorem Try.iu8 : (Try.prog.info? 5).map (fun i => (i.zero, i.size, i.bytes)) = some (some (.int .u8 0), 1, 1) := by kernel_rfl
/-- The cells of bytes. -/
def bcs (l : List Int) : List Value := l.map (Value.int .u8)
theorem bcs_length (l : List Int) : (bcs l).length = l.length := by simp [bcs]
theorem bcs_get (l : List Int) (j : Nat) : (bcs l)[j]? = (l[j]?).map (Value.int .u8) := by simp [bcs]
theorem bcs_one (l : List Int) : ∀ u, u ∈ bcs l → u.oneCell' = true := by
  intro u hu
  obtain ⟨n, _, rfl⟩ := List.mem_map.1 hu
  rfl
/-- A slice of bytes that lies in a world. -/
def Byt (w : World) (p : Option Addr) (cap : Nat) (l : List Int) : Prop :=
  (p = none ∧ cap = 0 ∧ l = []) ∨ ∃ a, p = some a ∧ l.length ≤ cap ∧ cap ≤ 9223372036854775807 ∧ ∀ (j : Nat) (u : Value), (bcs l)[j]? = some u → w.cell? (a.add j) = some u
theorem Byt.grow {w w' : World} {p : Option Addr} {cap : Nat} {l : List Int} (h : Byt w p cap l) (g : Grow w w') : Byt w' p cap l :=
  h.imp id fun ⟨a, hp, h1, h2, h3⟩ => ⟨a, hp, h1, h2, fun j u hj => g.keep (h3 j u hj)⟩
/-- A row of bytes of the call's own. -/
abbrev Row (w : World) (base : Nat) (v : Value) (l : List Int) : Prop := w.ownsRow base 5 1 v l.length (bcs l)
theorem Row.byt {w : World} {base : Nat} {v : Value} {l : List Int} (h : Row w base v l) : ∃ p cap, v = .slice p l.length cap ∧ Byt w p cap l := by
  obtain ⟨_, ⟨rfl, h0⟩ | ⟨g, cap, cur, rfl, hg, hh, hc, hm, hs, ht⟩⟩ := h
  · exact ⟨none, 0, by rw [h0], .inl ⟨rfl, rfl, List.length_eq_zero_iff.1 h0⟩⟩
  · refine ⟨some ⟨g, 0, none⟩, cap, rfl, .inr ⟨⟨g, 0, none⟩, rfl, hc, hm, fun j u hj => ?_⟩⟩
    have e : (⟨g, 0, none⟩ : Addr).add j = ⟨g, j, none⟩ := by unfold Addr.add; split <;> simp_all
    rw [e]
    simp only [World.cell?, hh]
    rw [← ht] at hj
    rw [List.getElem?_take] at hj
    split at hj
    · simpa using hj
    · cases hj
theorem Row.grow {w w' : World} {base : Nat} {v : Value} {l : List Int} (h : Row w base v l) (g : Grow w w') : Row w' base v l := by
  refine ⟨h.1, h.2.imp id fun ⟨b, cap, cur, hv, hg, hh, r⟩ => ⟨b, cap, cur, hv, hg, ?_, r⟩⟩
  rw [g.block b (Array.getElem?_eq_some_iff.1 hh).1]; exact hh
theorem Row.lower {w : World} {base base' : Nat} {v : Value} {l : List Int} (h : Row w base v l) (hb : base' ≤ base) : Row w base' v l :=
  ⟨h.1, h.2.imp id fun ⟨b, cap, cur, hv, hg, r⟩ => ⟨b, cap, cur, hv, Nat.le_trans hb hg, r⟩⟩
/-- A conversion of bytes to a string. -/
theorem Byt.string {w : World} {p : Option Addr} {cap : Nat} {l : List Int} (h : Byt w p cap l) :
    (convert 27 9 (.slice p l.length cap)).run Try.prog w = .ok (.string (strOfNums l)) w := by
  rcases h with ⟨rfl, rfl, rfl⟩ | ⟨a, rfl, h1, h2, h3⟩
  · exact run_convert_bytes_nil w _ _ Try.usl Try.uu8 0 0 _ Try.ustr
  · have hl : (loadCells a l.length).run Try.prog w = .ok (bcs l).toArray w := by
      have := run_loadCells_list (P := Try.prog) w a (bcs l) h3
      rwa [bcs_length] at this
    rw [run_convert_bytes_string w _ _ _ _ _ _ Try.usl Try.uu8 Try.ustr, run_bytesToString w _ _ cap l hl, foldl_push_bytes]
    simp [strOfNums, ByteArray.empty, ByteArray.emptyWithCapacity]
    rfl
/-- What the functions of bytes hand back: a row of the call's own, and an error. -/
def Gives (l : List Int) (err : Int) (w : World) (e : Ending) (w' : World) : Prop := ∃ v, e = .returned (.tuple #[v, .int .i64 err]) ∧ Row w' w.heap.size v l ∧ Grow w w'
theorem Gives.nil {w w' : World} {err : Int} (g : Grow w w') : Gives [] err w (.returned (.tuple #[.slice none 0 0, .int .i64 err])) w' := ⟨_, rfl, World.ownsRow_nil _ _ _ _, g⟩
end Go.Proofs.Ytflbiiflbehleaa
