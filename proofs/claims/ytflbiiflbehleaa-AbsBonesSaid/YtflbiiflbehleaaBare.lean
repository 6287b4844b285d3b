import Derived.Test.YtflbiiflbehleaaClone
namespace Go.Proofs.Ytflbiiflbehleaa
open Go.RowKit
/-- The zero value. -/
def V.zero : V := .mk 0 0 ByteArray.empty none 0 [] false
theorem V.zero_in (w : World) : V.zero.In w := .mk ⟨⟨by simp, by omega⟩, .inl rfl⟩ (by simp)
theorem V.zero_same : V.same V.zero V.zero = true := by simp [V.same, V.zero, V.sames]
def Fr.bare (x : Fr) : Fr := ⟨x.fn, x.ip, x.mode, none, 0, []⟩
def Df.bare (x : Df) : Df := ⟨x.frame, x.fn, x.has, V.zero⟩
def Pn.bare (x : Pn) : Pn := ⟨x.tag, V.zero, x.flags⟩
theorem Fr.bare_in (x : Fr) (w : World) : x.bare.In w := ⟨⟨⟨⟨by simp [Fr.bare], by simp [Fr.bare]⟩, .inl rfl⟩, by simp [Fr.bare]⟩⟩
theorem Df.bare_in (x : Df) (w : World) : x.bare.In w := ⟨V.zero_in w⟩
theorem Pn.bare_in (x : Pn) (w : World) : x.bare.In w := ⟨V.zero_in w⟩
theorem Fr.bare_same (x : Fr) : Fr.same x.bare x.bare = true := by simp [Fr.same, Fr.bare, allSame]
theorem Df.bare_same (x : Df) : Df.same x.bare x.bare = true := by simp [Df.same, Df.bare, V.zero_same]
theorem Pn.bare_same (x : Pn) : Pn.same x.bare x.bare = true := by simp [Pn.same, Pn.bare, V.zero_same]
theorem allSame_refl {α : Type} {f : α → α → Bool} (l : List α) (h : ∀ x, x ∈ l → f x x = true) : allSame f l l = true := by
  induction l with
  | nil => rfl
  | cons x r ih => simp only [allSame, Bool.and_eq_true]; exact ⟨h x (by simp), ih fun y hy => h y (by simp [hy])⟩
/-- y' is y without its values. -/
structure BareRo (y y' : Ro) : Prop where
  status : y'.status = y.status
  key : y'.key = y.key
  fs : y'.fs = y.fs.map Fr.bare
  ds : y'.ds = y.ds.map Df.bare
  ps : y'.ps = y.ps.map Pn.bare
theorem BareRo.same {y a b : Ro} (ha : BareRo y a) (hb : BareRo y b) : Ro.same a b = true := by
  simp only [Ro.same, ha.status, hb.status, ha.key, hb.key, ha.fs, hb.fs, ha.ds, hb.ds, ha.ps, hb.ps, beq_self_eq_true, Bool.true_and, Bool.and_eq_true]
  refine ⟨⟨allSame_refl _ ?_, allSame_refl _ ?_⟩, allSame_refl _ ?_⟩
  · intro x hx; obtain ⟨z, _, rfl⟩ := List.mem_map.1 hx; exact z.bare_same
  · intro x hx; obtain ⟨z, _, rfl⟩ := List.mem_map.1 hx; exact z.bare_same
  · intro x hx; obtain ⟨z, _, rfl⟩ := List.mem_map.1 hx; exact z.bare_same
theorem flat_at {α : Type} {cells : α → List Value} {size : Nat} (hc : ∀ x, (cells x).length = size) (l : List α) : ∀ (i r : Nat) (x : α) (u : Value), l[i]? = some x → (cells x)[r]? = some u → (l.flatMap cells)[i * size + r]? = some u ∧ i * size + r < l.length * size := by
  induction l with
  | nil => intro i r x u h; simp at h
  | cons y l ih =>
    intro i r x u hi hr
    have hrs : r < size := by rw [← hc x]; exact (List.getElem?_eq_some_iff.1 hr).1
    cases i with
    | zero =>
      simp at hi
      subst hi
      refine ⟨?_, by rw [List.length_cons, Nat.succ_mul]; omega⟩
      rw [List.flatMap_cons, Nat.zero_mul, Nat.zero_add, List.getElem?_append_left (by rw [hc]; exact hrs)]
      exact hr
    | succ i =>
      obtain ⟨h1, h2⟩ := ih i r x u (by simpa using hi) hr
      refine ⟨?_, by rw [List.length_cons, Nat.succ_mul, Nat.succ_mul]; omega⟩
      rw [List.flatMap_cons, List.getElem?_append_right (by rw [hc, Nat.succ_mul]; omega), hc, Nat.succ_mul, show i * size + size + r - size = i * size + r by omega]
      exact h1
/-- A slice's elements lie, in a block from lo on. -/
def LiesUp {α : Type} (lo : Nat) (w : World) (p : Option Addr) (cap size : Nat) (cells : α → List Value) (l : List α) : Prop :=
  Lies w p cap size cells l ∧ ∀ a, p = some a → lo ≤ a.block ∧ a.block < w.heap.size
theorem SRow.up {α : Type} {cells : α → List Value} {t : TypeId} {size : Nat} {w : World} {base : Nat} {v : Value} {l : List α} (hc : ∀ x, (cells x).length = size) (h : SRow cells t size w base v l) :
    ∃ p cap, v = .slice p l.length cap ∧ LiesUp base w p cap size cells l := by
  have hh0 := h
  obtain ⟨h0, ⟨rfl, h1⟩ | ⟨g, cap, cur, rfl, hg, hh, hcap, hm, hs, ht⟩⟩ := h
  · obtain rfl : l = [] := List.length_eq_zero_iff.1 h1
    exact ⟨none, 0, rfl, ⟨⟨by simp, by omega⟩, .inl rfl⟩, by simp⟩
  · have hlt : g < w.heap.size := (Array.getElem?_eq_some_iff.1 hh).1
    refine ⟨some ⟨g, 0, none⟩, cap, rfl, ⟨⟨hcap, hm⟩, .inr ⟨g, 0, rfl, hlt, fun i x hi r u hr => ?_⟩⟩, by intro a ha; cases ha; exact ⟨hg, hlt⟩⟩
    obtain ⟨h2, h3⟩ := flat_at hc l i r x u hi hr
    rw [Nat.zero_add, hh0.cellAt _ h3]
    exact h2
theorem LiesUp.keep {α : Type} {lo : Nat} {w w' : World} {p : Option Addr} {cap size : Nat} {cells : α → List Value} {l : List α} (h : LiesUp lo w p cap size cells l) (hs : w.heap.size ≤ w'.heap.size) (hk : ∀ a, p = some a → w'.heap[a.block]? = w.heap[a.block]?) : LiesUp lo w' p cap size cells l := by
  refine ⟨⟨h.1.1, h.1.2.imp id fun ⟨b, off, hp, hb, hc⟩ => ⟨b, off, hp, Nat.lt_of_lt_of_le hb hs, fun i x hi j u hj => ?_⟩⟩, fun a ha => ⟨(h.2 a ha).1, Nat.lt_of_lt_of_le (h.2 a ha).2 hs⟩⟩
  have h1 := hc i x hi j u hj
  have h2 := hk _ hp
  simp only [World.cell?] at h1 ⊢
  rw [h2]
  exact h1
theorem LiesUp.grow {α : Type} {lo : Nat} {w w' : World} {p : Option Addr} {cap size : Nat} {cells : α → List Value} {l : List α} (h : LiesUp lo w p cap size cells l) (g : Grow w w') : LiesUp lo w' p cap size cells l :=
  h.keep g.size fun a ha => g.block _ (h.2 a ha).2
theorem LiesUp.lower {α : Type} {lo lo' : Nat} {w : World} {p : Option Addr} {cap size : Nat} {cells : α → List Value} {l : List α} (h : LiesUp lo w p cap size cells l) (hl : lo' ≤ lo) : LiesUp lo' w p cap size cells l :=
  ⟨h.1, fun a ha => ⟨Nat.le_trans hl (h.2 a ha).1, (h.2 a ha).2⟩⟩
/-- A bare routine whose rows lie from lo on. -/
structure FreshRo (lo : Nat) (w : World) (y y' : Ro) : Prop where
  bare : BareRo y y'
  fs : LiesUp lo w y'.fsP y'.fsC 4 Fr.cells y'.fs
  ds : LiesUp lo w y'.dsP y'.dsC 8 Df.cells y'.ds
  ps : LiesUp lo w y'.psP y'.psC 7 Pn.cells y'.ps
theorem FreshRo.keep {lo : Nat} {w w' : World} {y y' : Ro} (h : FreshRo lo w y y') (hs : w.heap.size ≤ w'.heap.size) (hk : ∀ b, lo ≤ b → b < w.heap.size → w'.heap[b]? = w.heap[b]?) : FreshRo lo w' y y' :=
  ⟨h.bare, h.fs.keep hs fun a ha => hk _ (h.fs.2 a ha).1 (h.fs.2 a ha).2, h.ds.keep hs fun a ha => hk _ (h.ds.2 a ha).1 (h.ds.2 a ha).2, h.ps.keep hs fun a ha => hk _ (h.ps.2 a ha).1 (h.ps.2 a ha).2⟩
theorem FreshRo.grow {lo : Nat} {w w' : World} {y y' : Ro} (h : FreshRo lo w y y') (g : Grow w w') : FreshRo lo w' y y' := ⟨h.bare, h.fs.grow g, h.ds.grow g, h.ps.grow g⟩
theorem FreshRo.lower {lo lo' : Nat} {w : World} {y y' : Ro} (h : FreshRo lo w y y') (hl : lo' ≤ lo) : FreshRo lo' w y y' := ⟨h.bare, h.fs.lower hl, h.ds.lower hl, h.ps.lower hl⟩
theorem FreshRo.isIn {lo : Nat} {w : World} {y y' : Ro} (h : FreshRo lo w y y') : y'.In w := by
  refine ⟨⟨h.fs.1, fun x hx => ?_⟩, ⟨h.ds.1, fun x hx => ?_⟩, ⟨h.ps.1, fun x hx => ?_⟩⟩
  · rw [h.bare.fs] at hx; obtain ⟨z, _, rfl⟩ := List.mem_map.1 hx; exact z.bare_in w
  · rw [h.bare.ds] at hx; obtain ⟨z, _, rfl⟩ := List.mem_map.1 hx; exact z.bare_in w
  · rw [h.bare.ps] at hx; obtain ⟨z, _, rfl⟩ := List.mem_map.1 hx; exact z.bare_in w
/-- What Bones hands back. -/
def GivesBones (s : St) (w : World) (e : Ending) (w' : World) : Prop := ∃ s' : St, e = .returned s'.agg ∧ s'.In w' ∧ Grow w w' ∧ s'.out = s.out ∧ s'.failing = s.failing ∧ s'.steps = s.steps ∧ s'.rs.length = s.rs.length ∧ ∀ (i : Nat) (y y' : Ro), s.rs[i]? = some y → s'.rs[i]? = some y' → BareRo y y'
end Go.Proofs.Ytflbiiflbehleaa
