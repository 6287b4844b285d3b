import Derived.Test.YtflbiiflbehleaaBonesR
namespace Go.Proofs.Ytflbiiflbehleaa
open Go.RowKit
def GivesBare (y : Ro) (w : World) (e : Ending) (w' : World) : Prop := ∃ t : Ro, e = .returned t.agg ∧ FreshRo w.heap.size w' y t ∧ Grow w w'
/-- The first n turned. -/
def mixed {α : Type} (f : α → α) (n : Nat) (l : List α) : List α := (l.take n).map f ++ l.drop n
theorem mixed_length {α : Type} (f : α → α) (n : Nat) (l : List α) : (mixed f n l).length = l.length := by simp [mixed]; omega
theorem mixed_zero {α : Type} (f : α → α) (l : List α) : mixed f 0 l = l := by simp [mixed]
theorem mixed_all {α : Type} (f : α → α) (l : List α) : mixed f l.length l = l.map f := by simp [mixed]
theorem mixed_get {α : Type} (f : α → α) {n : Nat} {l : List α} {x : α} (h : l[n]? = some x) : mixed f n l = (l.take n).map f ++ (x :: l.drop (n + 1)) := by
  obtain ⟨hn, hx⟩ := List.getElem?_eq_some_iff.1 h
  rw [mixed, List.drop_eq_getElem_cons hn, hx]
theorem mixed_succ {α : Type} (f : α → α) {n : Nat} {l : List α} {x : α} (h : l[n]? = some x) : mixed f (n + 1) l = (l.take n).map f ++ (f x :: l.drop (n + 1)) := by
  simp [mixed, List.take_add_one, h]
theorem mixed_at {α : Type} (f : α → α) {n : Nat} {l : List α} {x : α} (h : l[n]? = some x) : (mixed f n l)[n]? = some x := by
  obtain ⟨hn, hx⟩ := List.getElem?_eq_some_iff.1 h
  rw [mixed_get f h, List.getElem?_append_right (by simp; omega)]
  simp [Nat.min_eq_left (Nat.le_of_lt hn)]
theorem set_mid (A C B : List Value) (k r : Nat) (u : Value) (hk : k = A.length + r) (hr : r < C.length) : (A ++ (C ++ B)).set k u = A ++ (C.set r u ++ B) := by
  subst hk
  rw [List.set_append_right _ _ (by omega), Nat.add_sub_cancel_left, List.set_append_left _ _ hr]
theorem row_set {w : World} {base size g n cap : Nat} {e : TypeId} {A C B : List Value} (h : w.ownsRow base e size (.slice (some ⟨g, 0, none⟩) n cap) n (A ++ (C ++ B))) (k r : Nat) (u : Value) (hk : k = A.length + r) (hr : r < C.length) :
    (w.setCell ⟨g, k, none⟩ u).ownsRow base e size (.slice (some ⟨g, 0, none⟩) n cap) n (A ++ (C.set r u ++ B)) := by
  have := (h.stored k u).1
  rwa [set_mid A C B k r u hk hr] at this
theorem mixed_flat {α : Type} (f : α → α) (cells : α → List Value) {n : Nat} {l : List α} {x : α} (h : l[n]? = some x) : (mixed f n l).flatMap cells = ((l.take n).map f).flatMap cells ++ (cells x ++ (l.drop (n + 1)).flatMap cells) := by
  rw [mixed_get f h, List.flatMap_append, List.flatMap_cons]
theorem mixed_flat' {α : Type} (f : α → α) (cells : α → List Value) {n : Nat} {l : List α} {x : α} (h : l[n]? = some x) : (mixed f (n + 1) l).flatMap cells = ((l.take n).map f).flatMap cells ++ (cells (f x) ++ (l.drop (n + 1)).flatMap cells) := by
  rw [mixed_succ f h, List.flatMap_append, List.flatMap_cons]
theorem mixed_len {α : Type} (f : α → α) {cells : α → List Value} {size : Nat} (hc : ∀ x, (cells x).length = size) {n : Nat} {l : List α} {x : α} (h : l[n]? = some x) : (((l.take n).map f).flatMap cells).length = n * size := by
  obtain ⟨hn, hx⟩ := List.getElem?_eq_some_iff.1 h
  rw [flat_length hc, List.length_map, List.length_take, Nat.min_eq_left (Nat.le_of_lt hn)]
/-- What a cell of the row holds. -/
theorem mixed_cell {α : Type} {f : α → α} {cells : α → List Value} {size : Nat} (hc : ∀ x, (cells x).length = size) {w : World} {base g cap n : Nat} {e : TypeId} {l : List α} {x : α} (h : w.ownsRow base e size (.slice (some ⟨g, 0, none⟩) l.length cap) l.length ((mixed f n l).flatMap cells)) (hx : l[n]? = some x) (r : Nat) (u : Value) (hr : (cells x)[r]? = some u) : w.cell? ⟨g, n * size + r, none⟩ = some u := by
  obtain ⟨h1, h2⟩ := flat_at hc (mixed f n l) n r x u (mixed_at f hx) hr
  rw [mixed_length] at h2
  rw [h.cellAt _ h2, h1]
theorem row_place {w : World} {base size n cap : Nat} {e : TypeId} {p : Option Addr} {xs : List Value} (h : w.ownsRow base e size (.slice p n cap) n xs) (hn : 0 < n) : ∃ g, p = some ⟨g, 0, none⟩ ∧ base ≤ g ∧ g < w.heap.size := by
  rcases h.2 with ⟨h1, h2⟩ | ⟨g, cap', cur, h1, hb, hg, _⟩
  · omega
  · cases h1
    exact ⟨g, rfl, hb, (Array.getElem?_eq_some_iff.1 hg).1⟩
theorem row_own {w : World} {base size n : Nat} {e : TypeId} {v : Value} {xs : List Value} (h : w.ownsRow base e size v n xs) : ∀ k, v.ownBlock = some k → base ≤ k ∧ k < w.heap.size := by
  intro k hk
  obtain ⟨_, ⟨rfl, _⟩ | ⟨g, cap, cur, rfl, hb, hgg, _⟩⟩ := h
  · cases hk
  · simp [Value.ownBlock] at hk
    subst hk
    exact ⟨hb, (Array.getElem?_eq_some_iff.1 hgg).1⟩
theorem row_grown {w w' : World} {base size n : Nat} {e : TypeId} {v : Value} {xs : List Value} {r : Option Nat} (h : w.ownsRow base e size v n xs) (g : w.grownBy w' r) (hr : ∀ k, r = some k → v.ownBlock ≠ some k) : w'.ownsRow base e size v n xs :=
  World.ownsRow.kept h g (by
    cases r with
    | none => cases hv : v.ownBlock <;> simp
    | some k => exact .inr (hr k rfl))
theorem row_lower {w : World} {base base' size n : Nat} {e : TypeId} {v : Value} {xs : List Value} (h : w.ownsRow base e size v n xs) (hb : base' ≤ base) : w.ownsRow base' e size v n xs :=
  ⟨h.1, h.2.imp id fun ⟨b, cap, cur, hv, hg, r⟩ => ⟨b, cap, cur, hv, Nat.le_trans hb hg, r⟩⟩
/-- What holds in the three loops. -/
structure Bare3 (y : Ro) (w : World) (p1 p2 p3 : Option Addr) (c1 c2 c3 n1 n2 n3 : Nat) (wr : World) : Prop where
  g : Grow w wr
  aX : At wr w.heap.size 68 #[.int .u8 y.status, .int .i64 y.key, .slice p1 y.fs.length c1, .slice p2 y.ds.length c2, .slice p3 y.ps.length c3]
  aR : At wr (w.heap.size + 1) 68 #[.int .u8 0, .int .i64 0, .slice none 0 0, .slice none 0 0, .slice none 0 0]
  r1 : wr.ownsRow (w.heap.size + 2) 74 4 (.slice p1 y.fs.length c1) y.fs.length ((mixed Fr.bare n1 y.fs).flatMap Fr.cells)
  r2 : wr.ownsRow (w.heap.size + 2) 81 8 (.slice p2 y.ds.length c2) y.ds.length ((mixed Df.bare n2 y.ds).flatMap Df.cells)
  r3 : wr.ownsRow (w.heap.size + 2) 85 7 (.slice p3 y.ps.length c3) y.ps.length ((mixed Pn.bare n3 y.ps).flatMap Pn.cells)
  d12 : ∀ a b, p1 = some a → p2 = some b → a.block ≠ b.block
  d13 : ∀ a b, p1 = some a → p3 = some b → a.block ≠ b.block
  d23 : ∀ a b, p2 = some a → p3 = some b → a.block ≠ b.block
theorem Bare3.off12 {g0 : Nat} {y : Ro} {w : World} {p1 p2 p3 : Option Addr} {c1 c2 c3 n1 n2 n3 : Nat} {wr : World} (h : Bare3 y w p1 p2 p3 c1 c2 c3 n1 n2 n3 wr) (hp : p1 = some ⟨g0, 0, none⟩) (k : Nat) (e : (Value.slice p2 y.ds.length c2).ownBlock = some k) : g0 ≠ k := by
  cases hq : p2 with
  | none => rw [hq] at e; cases e
  | some ad =>
    rw [hq] at e
    have e' : ad.block = k := by simpa [Value.ownBlock] using e
    have := h.d12 _ ad hp hq
    simp at this
    omega
theorem Bare3.off13 {g0 : Nat} {y : Ro} {w : World} {p1 p2 p3 : Option Addr} {c1 c2 c3 n1 n2 n3 : Nat} {wr : World} (h : Bare3 y w p1 p2 p3 c1 c2 c3 n1 n2 n3 wr) (hp : p1 = some ⟨g0, 0, none⟩) (k : Nat) (e : (Value.slice p3 y.ps.length c3).ownBlock = some k) : g0 ≠ k := by
  cases hq : p3 with
  | none => rw [hq] at e; cases e
  | some ad =>
    rw [hq] at e
    have e' : ad.block = k := by simpa [Value.ownBlock] using e
    have := h.d13 _ ad hp hq
    simp at this
    omega
theorem Bare3.off21 {g0 : Nat} {y : Ro} {w : World} {p1 p2 p3 : Option Addr} {c1 c2 c3 n1 n2 n3 : Nat} {wr : World} (h : Bare3 y w p1 p2 p3 c1 c2 c3 n1 n2 n3 wr) (hp : p2 = some ⟨g0, 0, none⟩) (k : Nat) (e : (Value.slice p1 y.fs.length c1).ownBlock = some k) : g0 ≠ k := by
  cases hq : p1 with
  | none => rw [hq] at e; cases e
  | some ad =>
    rw [hq] at e
    have e' : ad.block = k := by simpa [Value.ownBlock] using e
    have := h.d12 ad _ hq hp
    simp at this
    omega
theorem Bare3.off23 {g0 : Nat} {y : Ro} {w : World} {p1 p2 p3 : Option Addr} {c1 c2 c3 n1 n2 n3 : Nat} {wr : World} (h : Bare3 y w p1 p2 p3 c1 c2 c3 n1 n2 n3 wr) (hp : p2 = some ⟨g0, 0, none⟩) (k : Nat) (e : (Value.slice p3 y.ps.length c3).ownBlock = some k) : g0 ≠ k := by
  cases hq : p3 with
  | none => rw [hq] at e; cases e
  | some ad =>
    rw [hq] at e
    have e' : ad.block = k := by simpa [Value.ownBlock] using e
    have := h.d23 _ ad hp hq
    simp at this
    omega
theorem Bare3.off31 {g0 : Nat} {y : Ro} {w : World} {p1 p2 p3 : Option Addr} {c1 c2 c3 n1 n2 n3 : Nat} {wr : World} (h : Bare3 y w p1 p2 p3 c1 c2 c3 n1 n2 n3 wr) (hp : p3 = some ⟨g0, 0, none⟩) (k : Nat) (e : (Value.slice p1 y.fs.length c1).ownBlock = some k) : g0 ≠ k := by
  cases hq : p1 with
  | none => rw [hq] at e; cases e
  | some ad =>
    rw [hq] at e
    have e' : ad.block = k := by simpa [Value.ownBlock] using e
    have := h.d13 ad _ hq hp
    simp at this
    omega
theorem Bare3.off32 {g0 : Nat} {y : Ro} {w : World} {p1 p2 p3 : Option Addr} {c1 c2 c3 n1 n2 n3 : Nat} {wr : World} (h : Bare3 y w p1 p2 p3 c1 c2 c3 n1 n2 n3 wr) (hp : p3 = some ⟨g0, 0, none⟩) (k : Nat) (e : (Value.slice p2 y.ds.length c2).ownBlock = some k) : g0 ≠ k := by
  cases hq : p2 with
  | none => rw [hq] at e; cases e
  | some ad =>
    rw [hq] at e
    have e' : ad.block = k := by simpa [Value.ownBlock] using e
    have := h.d23 ad _ hq hp
    simp at this
    omega
theorem Bare3.turn1 {m g0 : Nat} {y : Ro} {w : World} {p1 p2 p3 : Option Addr} {c1 c2 c3 n1 n2 n3 : Nat} {wr wq : World} (h : Bare3 y w p1 p2 p3 c1 c2 c3 n1 n2 n3 wr) (hp : p1 = some ⟨g0, 0, none⟩) (hg : wr.grownBy wq (some g0)) (hr : wq.ownsRow (w.heap.size + 2) 74 4 (.slice p1 y.fs.length c1) y.fs.length ((mixed Fr.bare m y.fs).flatMap Fr.cells)) : Bare3 y w p1 p2 p3 c1 c2 c3 m n2 n3 wq := by
  have ho := (row_own h.r1 g0 (by rw [hp]; rfl)).1
  exact ⟨grow_of_grown h.g hg (by omega), h.aX.grown hg (by simp; omega), h.aR.grown hg (by simp; omega), hr, row_grown h.r2 hg (fun k hk e => absurd (Option.some.inj hk) (h.off12 hp k e)), row_grown h.r3 hg (fun k hk e => absurd (Option.some.inj hk) (h.off13 hp k e)), h.d12, h.d13, h.d23⟩
theorem Bare3.turn2 {m g0 : Nat} {y : Ro} {w : World} {p1 p2 p3 : Option Addr} {c1 c2 c3 n1 n2 n3 : Nat} {wr wq : World} (h : Bare3 y w p1 p2 p3 c1 c2 c3 n1 n2 n3 wr) (hp : p2 = some ⟨g0, 0, none⟩) (hg : wr.grownBy wq (some g0)) (hr : wq.ownsRow (w.heap.size + 2) 81 8 (.slice p2 y.ds.length c2) y.ds.length ((mixed Df.bare m y.ds).flatMap Df.cells)) : Bare3 y w p1 p2 p3 c1 c2 c3 n1 m n3 wq := by
  have ho := (row_own h.r2 g0 (by rw [hp]; rfl)).1
  exact ⟨grow_of_grown h.g hg (by omega), h.aX.grown hg (by simp; omega), h.aR.grown hg (by simp; omega), row_grown h.r1 hg (fun k hk e => absurd (Option.some.inj hk) (h.off21 hp k e)), hr, row_grown h.r3 hg (fun k hk e => absurd (Option.some.inj hk) (h.off23 hp k e)), h.d12, h.d13, h.d23⟩
theorem Bare3.turn3 {m g0 : Nat} {y : Ro} {w : World} {p1 p2 p3 : Option Addr} {c1 c2 c3 n1 n2 n3 : Nat} {wr wq : World} (h : Bare3 y w p1 p2 p3 c1 c2 c3 n1 n2 n3 wr) (hp : p3 = some ⟨g0, 0, none⟩) (hg : wr.grownBy wq (some g0)) (hr : wq.ownsRow (w.heap.size + 2) 85 7 (.slice p3 y.ps.length c3) y.ps.length ((mixed Pn.bare m y.ps).flatMap Pn.cells)) : Bare3 y w p1 p2 p3 c1 c2 c3 n1 n2 m wq := by
  have ho := (row_own h.r3 g0 (by rw [hp]; rfl)).1
  exact ⟨grow_of_grown h.g hg (by omega), h.aX.grown hg (by simp; omega), h.aR.grown hg (by simp; omega), row_grown h.r1 hg (fun k hk e => absurd (Option.some.inj hk) (h.off31 hp k e)), row_grown h.r2 hg (fun k hk e => absurd (Option.some.inj hk) (h.off32 hp k e)), hr, h.d12, h.d13, h.d23⟩
theorem Fr.stores {w : World} {base g0 cap n : Nat} {e : TypeId} {l : List Fr} {x : Fr} (h : w.ownsRow base e 4 (.slice (some ⟨g0, 0, none⟩) l.length cap) l.length ((mixed Fr.bare n l).flatMap Fr.cells)) (hx : l[n]? = some x) :
    (w.setCell ⟨g0, n * 4 + 3, none⟩ (.slice none 0 0)).ownsRow base e 4 (.slice (some ⟨g0, 0, none⟩) l.length cap) l.length ((mixed Fr.bare (n + 1) l).flatMap Fr.cells) ∧ w.grownBy (w.setCell ⟨g0, n * 4 + 3, none⟩ (.slice none 0 0)) (some g0) := by
  have hl := mixed_len Fr.bare Fr.cells_length hx
  have h0 := h
  rw [mixed_flat Fr.bare Fr.cells hx] at h0
  refine ⟨?_, grown_set _ _ _ _⟩
  rw [mixed_flat' Fr.bare Fr.cells hx]
  exact (row_set h0 _ 3 (.slice none 0 0) (by rw [hl]) (by simp [Fr.cells]))
theorem Df.stores {w : World} {base g0 cap n : Nat} {e : TypeId} {l : List Df} {x : Df} (h : w.ownsRow base e 8 (.slice (some ⟨g0, 0, none⟩) l.length cap) l.length ((mixed Df.bare n l).flatMap Df.cells)) (hx : l[n]? = some x) :
    (((((w.setCell ⟨g0, n * 8 + 3, none⟩ (.int .u8 0)).setCell ⟨g0, n * 8 + 4, none⟩ (.int .i64 0)).setCell ⟨g0, n * 8 + 5, none⟩ (.string ByteArray.empty)).setCell ⟨g0, n * 8 + 6, none⟩ (.slice none 0 0)).setCell ⟨g0, n * 8 + 7, none⟩ (.bool false)).ownsRow base e 8 (.slice (some ⟨g0, 0, none⟩) l.length cap) l.length ((mixed Df.bare (n + 1) l).flatMap Df.cells) ∧ w.grownBy (((((w.setCell ⟨g0, n * 8 + 3, none⟩ (.int .u8 0)).setCell ⟨g0, n * 8 + 4, none⟩ (.int .i64 0)).setCell ⟨g0, n * 8 + 5, none⟩ (.string ByteArray.empty)).setCell ⟨g0, n * 8 + 6, none⟩ (.slice none 0 0)).setCell ⟨g0, n * 8 + 7, none⟩ (.bool false)) (some g0) := by
  have hl := mixed_len Df.bare Df.cells_length hx
  have h0 := h
  rw [mixed_flat Df.bare Df.cells hx] at h0
  refine ⟨?_, grown_more (grown_more (grown_more (grown_more (grown_set _ _ _ _) (grown_set _ _ _ _) (by simp)) (grown_set _ _ _ _) (by simp)) (grown_set _ _ _ _) (by simp)) (grown_set _ _ _ _) (by simp)⟩
  rw [mixed_flat' Df.bare Df.cells hx]
  exact (row_set (row_set (row_set (row_set (row_set h0 _ 3 (.int .u8 0) (by rw [hl]) (by simp [Df.cells])) _ 4 (.int .i64 0) (by rw [hl]) (by simp [Df.cells])) _ 5 (.string ByteArray.empty) (by rw [hl]) (by simp [Df.cells])) _ 6 (.slice none 0 0) (by rw [hl]) (by simp [Df.cells])) _ 7 (.bool false) (by rw [hl]) (by simp [Df.cells]))
theorem Pn.stores {w : World} {base g0 cap n : Nat} {e : TypeId} {l : List Pn} {x : Pn} (h : w.ownsRow base e 7 (.slice (some ⟨g0, 0, none⟩) l.length cap) l.length ((mixed Pn.bare n l).flatMap Pn.cells)) (hx : l[n]? = some x) :
    (((((w.setCell ⟨g0, n * 7 + 1, none⟩ (.int .u8 0)).setCell ⟨g0, n * 7 + 2, none⟩ (.int .i64 0)).setCell ⟨g0, n * 7 + 3, none⟩ (.string ByteArray.empty)).setCell ⟨g0, n * 7 + 4, none⟩ (.slice none 0 0)).setCell ⟨g0, n * 7 + 5, none⟩ (.bool false)).ownsRow base e 7 (.slice (some ⟨g0, 0, none⟩) l.length cap) l.length ((mixed Pn.bare (n + 1) l).flatMap Pn.cells) ∧ w.grownBy (((((w.setCell ⟨g0, n * 7 + 1, none⟩ (.int .u8 0)).setCell ⟨g0, n * 7 + 2, none⟩ (.int .i64 0)).setCell ⟨g0, n * 7 + 3, none⟩ (.string ByteArray.empty)).setCell ⟨g0, n * 7 + 4, none⟩ (.slice none 0 0)).setCell ⟨g0, n * 7 + 5, none⟩ (.bool false)) (some g0) := by
  have hl := mixed_len Pn.bare Pn.cells_length hx
  have h0 := h
  rw [mixed_flat Pn.bare Pn.cells hx] at h0
  refine ⟨?_, grown_more (grown_more (grown_more (grown_more (grown_set _ _ _ _) (grown_set _ _ _ _) (by simp)) (grown_set _ _ _ _) (by simp)) (grown_set _ _ _ _) (by simp)) (grown_set _ _ _ _) (by simp)⟩
  rw [mixed_flat' Pn.bare Pn.cells hx]
  exact (row_set (row_set (row_set (row_set (row_set h0 _ 1 (.int .u8 0) (by rw [hl]) (by simp [Pn.cells])) _ 2 (.int .i64 0) (by rw [hl]) (by simp [Pn.cells])) _ 3 (.string ByteArray.empty) (by rw [hl]) (by simp [Pn.cells])) _ 4 (.slice none 0 0) (by rw [hl]) (by simp [Pn.cells])) _ 5 (.bool false) (by rw [hl]) (by simp [Pn.cells]))
theorem Bare3.done {y : Ro} {w : World} {p1 p2 p3 : Option Addr} {c1 c2 c3 : Nat} {wr wq : World} (h : Bare3 y w p1 p2 p3 c1 c2 c3 y.fs.length y.ds.length y.ps.length wr) (hg : wr.grownBy wq (some (w.heap.size + 1))) : GivesBare y w (.returned (.agg #[.int .u8 y.status, .int .i64 y.key, .slice p1 y.fs.length c1, .slice p2 y.ds.length c2, .slice p3 y.ps.length c3])) wq := by
  have r1 := h.r1
  have r2 := h.r2
  have r3 := h.r3
  rw [mixed_all] at r1 r2 r3
  have off : ∀ (v : Value) (e : TypeId) (size n : Nat) (xs : List Value), wr.ownsRow (w.heap.size + 2) e size v n xs → wq.ownsRow (w.heap.size + 2) e size v n xs := by
    intro v e size n xs hr
    refine row_grown hr hg ?_
    intro k hk e
    have := (row_own hr k e).1
    have := Option.some.inj hk
    omega
  have r1 := off _ _ _ _ _ r1
  have r2 := off _ _ _ _ _ r2
  have r3 := off _ _ _ _ _ r3
  obtain ⟨q1, k1, e1, l1⟩ := row_up (lo := w.heap.size) (n := y.fs.length) (base := w.heap.size + 2) (w := wq) (v := .slice p1 y.fs.length c1) Fr.cells_length (l := y.fs.map Fr.bare) (t := 74) (by unfold SRow; rw [List.length_map]; exact r1) (by omega) (by simp)
  obtain ⟨q2, k2, e2, l2⟩ := row_up (lo := w.heap.size) (n := y.ds.length) (base := w.heap.size + 2) (w := wq) (v := .slice p2 y.ds.length c2) Df.cells_length (l := y.ds.map Df.bare) (t := 81) (by unfold SRow; rw [List.length_map]; exact r2) (by omega) (by simp)
  obtain ⟨q3, k3, e3, l3⟩ := row_up (lo := w.heap.size) (n := y.ps.length) (base := w.heap.size + 2) (w := wq) (v := .slice p3 y.ps.length c3) Pn.cells_length (l := y.ps.map Pn.bare) (t := 85) (by unfold SRow; rw [List.length_map]; exact r3) (by omega) (by simp)
  cases e1; cases e2; cases e3
  refine ⟨⟨y.status, y.key, p1, c1, y.fs.map Fr.bare, p2, c2, y.ds.map Df.bare, p3, c3, y.ps.map Pn.bare⟩, ?_, ⟨⟨rfl, rfl, rfl, rfl, rfl⟩, l1, l2, l3⟩, grow_of_grown h.g hg (by omega)⟩
  simp [Ro.agg]
/-- Behind the three clones and the three stores. -/
theorem Bare3.start {y : Ro} {w w1 w2 w3 w4 : World} {p1 p2 p3 : Option Addr} {c1 c2 c3 : Nat} (g1 : Grow w w1) (hs : w1.heap.size = w.heap.size + 2) (aX : At w1 w.heap.size 68 #[.int .u8 y.status, .int .i64 y.key, .slice y.fsP y.fs.length y.fsC, .slice y.dsP y.ds.length y.dsC, .slice y.psP y.ps.length y.psC])
    (aR : At w1 (w.heap.size + 1) 68 #[.int .u8 0, .int .i64 0, .slice none 0 0, .slice none 0 0, .slice none 0 0])
    (g2 : Grow w1 w2) (r1 : SRow Fr.cells 74 4 w2 w1.heap.size (.slice p1 y.fs.length c1) y.fs)
    (g3 : Grow w2 w3) (r2 : SRow Df.cells 81 8 w3 w2.heap.size (.slice p2 y.ds.length c2) y.ds)
    (g4 : Grow w3 w4) (r3 : SRow Pn.cells 85 7 w4 w3.heap.size (.slice p3 y.ps.length c3) y.ps) :
    Bare3 y w p1 p2 p3 c1 c2 c3 0 0 0 (((w4.setCell ⟨w.heap.size, 2, none⟩ (.slice p1 y.fs.length c1)).setCell ⟨w.heap.size, 3, none⟩ (.slice p2 y.ds.length c2)).setCell ⟨w.heap.size, 4, none⟩ (.slice p3 y.ps.length c3)) := by
  have z2 := g2.size
  have z3 := g3.size
  have z4 := g4.size
  have hg : w4.grownBy (((w4.setCell ⟨w.heap.size, 2, none⟩ (.slice p1 y.fs.length c1)).setCell ⟨w.heap.size, 3, none⟩ (.slice p2 y.ds.length c2)).setCell ⟨w.heap.size, 4, none⟩ (.slice p3 y.ps.length c3)) (some w.heap.size) :=
    grown_more (grown_more (grown_set _ _ _ _) (grown_set _ _ _ _) (by simp)) (grown_set _ _ _ _) (by simp)
  have b1 : ∀ a, p1 = some a → w1.heap.size ≤ a.block ∧ a.block < w2.heap.size := fun a ha => row_own r1 a.block (by rw [ha]; rfl)
  have b2 : ∀ a, p2 = some a → w2.heap.size ≤ a.block ∧ a.block < w3.heap.size := fun a ha => row_own r2 a.block (by rw [ha]; rfl)
  have b3 : ∀ a, p3 = some a → w3.heap.size ≤ a.block ∧ a.block < w4.heap.size := fun a ha => row_own r3 a.block (by rw [ha]; rfl)
  have q1 : w4.ownsRow w1.heap.size _ 4 _ y.fs.length _ := row_grown (row_grown r1 (grown_of_grow g3 none) (by simp)) (grown_of_grow g4 none) (by simp)
  have q2 : w4.ownsRow w2.heap.size _ 8 _ y.ds.length _ := row_grown r2 (grown_of_grow g4 none) (by simp)
  have off : ∀ (v : Value) (e : TypeId) (size n base : Nat) (xs : List Value), w1.heap.size ≤ base → w4.ownsRow base e size v n xs → (((w4.setCell ⟨w.heap.size, 2, none⟩ (.slice p1 y.fs.length c1)).setCell ⟨w.heap.size, 3, none⟩ (.slice p2 y.ds.length c2)).setCell ⟨w.heap.size, 4, none⟩ (.slice p3 y.ps.length c3)).ownsRow (w.heap.size + 2) e size v n xs := by
    intro v e size n base xs hb hr
    refine row_lower (row_grown hr hg ?_) (by omega)
    intro k hk e
    have := (row_own hr k e).1
    have := Option.some.inj hk
    omega
  refine ⟨grow_of_grown (((g1.then g2).then g3).then g4) hg (by omega), ?_, ((((aR.grow g2).grow g3).grow g4).grown hg (by simp)), ?_, ?_, ?_, ?_, ?_, ?_⟩
  · exact ((((((aX.grow g2).grow g3).grow g4).set 2 _).set 3 _).set 4 _)
  · rw [mixed_zero]; exact off _ _ _ _ _ _ (Nat.le_refl _) q1
  · rw [mixed_zero]; exact off _ _ _ _ _ _ z2 q2
  · rw [mixed_zero]; exact off _ _ _ _ _ _ (by omega) r3
  · intro a b ha hb; have := b1 a ha; have := b2 b hb; omega
  · intro a b ha hb; have := b1 a ha; have := b3 b hb; omega
  · intro a b ha hb; have := b2 a ha; have := b3 b hb; omega
end Go.Proofs.Ytflbiiflbehleaa
