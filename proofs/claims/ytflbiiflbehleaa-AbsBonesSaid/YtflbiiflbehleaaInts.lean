import Derived.Test.YtflbiiflbehleaaData
import Derived.Test.YtflbiiflbehleaaRows
import Derived.Laws.AppendOwnNone
import Derived.Deep.AppendSrc
namespace Go.Proofs.Ytflbiiflbehleaa
open Go.RowKit
theorem Try.uislice : Try.prog.underlying 43 = some (.slice 3) := by kernel_rfl
theorem Try.iint : (Try.prog.info? 3).map (fun i => (i.zero, i.size, i.bytes)) = some (some (.int .i64 0), 1, 8) := by kernel_rfl
/-- The cells of bytes. -/
def ics (l : List Int) : List Value := l.map (Value.int .i64)
theorem ics_length (l : List Int) : (ics l).length = l.length := by simp [ics]
theorem ics_get (l : List Int) (j : Nat) : (ics l)[j]? = (l[j]?).map (Value.int .i64) := by simp [ics]
theorem ics_one (l : List Int) : ∀ u, u ∈ ics l → u.oneCell' = true := by
  intro u hu
  obtain ⟨n, _, rfl⟩ := List.mem_map.1 hu
  rfl
/-- A slice of bytes that lies in a world. -/
def Its (w : World) (p : Option Addr) (cap : Nat) (l : List Int) : Prop :=
  (p = none ∧ cap = 0 ∧ l = []) ∨ ∃ a, p = some a ∧ l.length ≤ cap ∧ cap ≤ 9223372036854775807 ∧ ∀ (j : Nat) (u : Value), (ics l)[j]? = some u → w.cell? (a.add j) = some u
theorem Its.grow {w w' : World} {p : Option Addr} {cap : Nat} {l : List Int} (h : Its w p cap l) (g : Grow w w') : Its w' p cap l :=
  h.imp id fun ⟨a, hp, h1, h2, h3⟩ => ⟨a, hp, h1, h2, fun j u hj => g.keep (h3 j u hj)⟩
/-- A row of bytes of the call's own. -/
abbrev IRow (w : World) (base : Nat) (v : Value) (l : List Int) : Prop := w.ownsRow base 3 1 v l.length (ics l)
theorem IRow.byt {w : World} {base : Nat} {v : Value} {l : List Int} (h : IRow w base v l) : ∃ p cap, v = .slice p l.length cap ∧ Its w p cap l := by
  obtain ⟨_, ⟨rfl, h0⟩ | ⟨g, cap, cur, rfl, hg, hh, hc, hm, hs, ht⟩⟩ := h
  · exact ⟨none, 0, by rw [h0], .inl ⟨rfl, rfl, List.length_eq_zero_iff.1 h0⟩⟩
  · refine ⟨some ⟨g, 0, none⟩, cap, rfl, .inr ⟨⟨g, 0, none⟩, rfl, hc, hm, fun j u hj => ?_⟩⟩
    have e : (⟨g, 0, none⟩ : Addr).add j = ⟨g, j, none⟩ := by unfold Addr.add; split <;> simp_all
    rw [e]
    simp only [World.cell?, hh]
    rw [← ht] at hj
    rw [List.getElem?_take] at hj
    split at hj
    · simpa using hj
    · cases hj
theorem IRow.grow {w w' : World} {base : Nat} {v : Value} {l : List Int} (h : IRow w base v l) (g : Grow w w') : IRow w' base v l := by
  refine ⟨h.1, h.2.imp id fun ⟨b, cap, cur, hv, hg, hh, r⟩ => ⟨b, cap, cur, hv, hg, ?_, r⟩⟩
  rw [g.block b (Array.getElem?_eq_some_iff.1 hh).1]; exact hh
theorem IRow.lower {w : World} {base base' : Nat} {v : Value} {l : List Int} (h : IRow w base v l) (hb : base' ≤ base) : IRow w base' v l :=
  ⟨h.1, h.2.imp id fun ⟨b, cap, cur, hv, hg, r⟩ => ⟨b, cap, cur, hv, Nat.le_trans hb hg, r⟩⟩
/-- What the functions of bytes hand back: a row of the call's own, and an error. -/
def GivesI (l : List Int) (err : Int) (w : World) (e : Ending) (w' : World) : Prop := ∃ v, e = .returned (.tuple #[v, .int .i64 err]) ∧ IRow w' w.heap.size v l ∧ Grow w w'
theorem GivesI.nil {w w' : World} {err : Int} (g : Grow w w') : GivesI [] err w (.returned (.tuple #[.slice none 0 0, .int .i64 err])) w' := ⟨_, rfl, World.ownsRow_nil _ _ _ _, g⟩
theorem take_icells {w : World} {a : Addr} {l : List Int} (h : ∀ (j : Nat) (u : Value), (ics l)[j]? = some u → w.cell? (a.add j) = some u) (n : Nat) : ∀ (j : Nat) (u : Value), (ics (l.take n))[j]? = some u → w.cell? (a.add j) = some u := by
  intro j u hj
  refine h j u ?_
  rw [ics_get] at hj ⊢
  rw [List.getElem?_take] at hj
  split at hj
  · exact hj
  · simp at hj
/-- The empty row that an empty literal makes. -/
theorem empty_irow (w : World) : IRow (w.alloc (.cells #[] 3)) w.heap.size (.slice (some ⟨w.heap.size, 0, none⟩) 0 0) [] :=
  World.ownsRow_lit (base := w.heap.size) (e := 3) (size := 1) w #[] 0 (Nat.le_refl _) (by unfold maxLen; omega) (by simp)
theorem GivesI.mk {l : List Int} {err : Int} {w w' : World} {v : Value} (h : IRow w' w.heap.size v l) (g : Grow w w') : GivesI l err w (.returned (.tuple #[v, .int .i64 err])) w' := ⟨v, rfl, h, g⟩
theorem ics_app (a b : List Int) : ics (a ++ b) = ics a ++ ics b := by simp [ics]
/-- An append of bytes, nil or not, to a row of the call's own. -/
theorem append_its {ops : Array Oper} {rest : List Oper} {o : Oper} {a : Act} {Q : Exit → Act → World → Prop} (w : World) (hg : o.guard = none) (s x : Operand)
    (ho : o.op = Op.call { callee := Callee.builtin Builtin.append, args := #[s, x], argTypes := #[43, 43] }) (base : Nat) (v : Value) (xs : List Int) (hv : a.eval s = v)
    (p : Option Addr) (cap : Nat) (l : List Int) (n : Nat) (hn : n = l.length) (hx : a.eval x = .slice p n cap) (hown : IRow w base v xs) (hb : Its w p cap l) (hlen : xs.length + l.length ≤ 1000000000) (hbase : base ≤ w.heap.size)
    (K : ∀ (v' : Value) (w' : World), IRow w' base v' (xs ++ l) → w.grownBy w' v.ownBlock → wpList Try.prog ops Q rest (a.put o.dst v') w') : wpList Try.prog ops Q (o :: rest) a w := by
  subst hn
  obtain ⟨i0, hi, hz0, hz1, hz2⟩ := info_parts Try.iint
  rcases hb with ⟨rfl, rfl, rfl⟩ | ⟨ad, rfl, _, _, hcell⟩
  · refine wpList_append_own_none hg s x _ ho base 3 i0 1 Try.uislice hi v xs.length (ics xs) hv hown hx ?_
    refine K v w (by rw [List.append_nil]; exact hown) ⟨rfl, rfl, rfl, Nat.le_refl _, fun _ _ _ => rfl⟩
  · refine wpList_append_own w hg s x _ ho base 3 i0 (.int .i64 0) 1 8 Try.uislice hi hz0 hz1 hz2 rfl (by decide) v xs.length (ics xs) hv hown ad l.length cap (ics l) hx (by rw [ics_length]; omega) hcell (ics_one _) (by unfold maxLen; omega) (by omega) hbase ?_
    intro v' w' h1 h2 _
    refine K v' w' ?_ h2
    unfold IRow
    rw [ics_app, List.length_append]
    exact h1
theorem Its.take {w : World} {p : Option Addr} {cap : Nat} {l : List Int} (h : Its w p cap l) (n : Nat) : Its w p cap (l.take n) := by
  rcases h with ⟨rfl, rfl, rfl⟩ | ⟨a, rfl, h1, h2, h3⟩
  · exact .inl ⟨rfl, rfl, by simp⟩
  · exact .inr ⟨a, rfl, by rw [List.length_take]; omega, h2, take_icells h3 n⟩
theorem Its.nilCap {w : World} {cap : Nat} {l : List Int} (h : Its w none cap l) : cap = 0 ∧ l = [] := by
  rcases h with ⟨_, h1, h2⟩ | ⟨a, h, _⟩
  · exact ⟨h1, h2⟩
  · cases h
theorem Its.le {w : World} {p : Option Addr} {cap : Nat} {l : List Int} (h : Its w p cap l) : l.length ≤ cap ∧ cap ≤ 9223372036854775807 := by
  rcases h with ⟨_, rfl, rfl⟩ | ⟨a, _, h1, h2, _⟩
  · exact ⟨by simp, by omega⟩
  · exact ⟨h1, h2⟩
theorem Its.place {w : World} {p : Option Addr} {cap : Nat} {l : List Int} (h : Its w p cap l) (h0 : 0 < l.length) : ∃ b off, p = some ⟨b, off, none⟩ ∧ b < w.heap.size ∧ ∀ (j : Nat), j < l.length → w.cell? ⟨b, off + j, none⟩ = some (.int .i64 (l.getD j 0)) := by
  rcases h with ⟨_, _, rfl⟩ | ⟨a, rfl, h1, h2, h3⟩
  · simp at h0
  · obtain ⟨b, off, spot⟩ := a
    have e0 := h3 0 (.int .i64 l[0]) (by rw [ics_get, List.getElem?_eq_getElem h0]; rfl)
    have hs : spot = none := by
      cases spot with
      | none => rfl
      | some s =>
        simp only [Addr.add, if_true, World.cell?] at e0
        split at e0 <;> simp at e0
    subst hs
    refine ⟨b, off, rfl, ?_, fun j hj => ?_⟩
    · simp only [Addr.add, if_true] at e0
      exact cell_lt e0
    · have := h3 j (.int .i64 l[j]) (by rw [ics_get, List.getElem?_eq_getElem hj]; rfl)
      have e : (⟨b, off, none⟩ : Addr).add j = ⟨b, off + j, none⟩ := by unfold Addr.add; split <;> simp_all
      rw [e] at this
      rw [this]; simp [List.getD, hj]
theorem IRow.place {w : World} {base : Nat} {v : Value} {l : List Int} (h : IRow w base v l) (h0 : 0 < l.length) : ∃ g cap, v = .slice (some ⟨g, 0, none⟩) l.length cap ∧ base ≤ g ∧ g < w.heap.size ∧ l.length ≤ cap ∧ ∀ (j : Nat), j < l.length → w.cell? ⟨g, j, none⟩ = some (.int .i64 (l.getD j 0)) ∧ w.frozen? ⟨g, j, none⟩ = false := by
  rcases h.2 with ⟨rfl, h1⟩ | ⟨g, cap, cur, rfl, hg, hh, hc, hm, hs, ht⟩
  · omega
  · refine ⟨g, cap, rfl, hg, (Array.getElem?_eq_some_iff.1 hh).1, hc, fun j hj => ⟨?_, h.frozenAt j⟩⟩
    rw [h.cellAt j (by omega), ics_get, List.getElem?_eq_getElem hj]
    simp [List.getD, hj]
theorem IRow.set {w : World} {base g cap : Nat} {l : List Int} (h : IRow w base (.slice (some ⟨g, 0, none⟩) l.length cap) l) (j : Nat) (z : Int) : IRow (w.setCell ⟨g, j, none⟩ (.int .i64 z)) base (.slice (some ⟨g, 0, none⟩) l.length cap) (l.set j z) := by
  have := h.stored j (.int .i64 z)
  unfold IRow
  rw [List.length_set]
  have e : ics (l.set j z) = (ics l).set j (.int .i64 z) := by simp [ics, List.map_set]
  rw [e]
  exact this.1
end Go.Proofs.Ytflbiiflbehleaa
