/- Plain data of the program as Lean types that carry the slice headers, and what it is to lie in a world. No condition. -/
import Derived.WalkKit
import Derived.WalkSpells
import Derived.WalkLawsBesides
import Derived.Lib.Hide
import Derived.BigQuiet
import Derived.WalkSmall
namespace Go.Proofs.Ytflbiiflbehleaa
open Go.RowKit

/-- What lay before still lies. -/
abbrev Grow (w w' : World) : Prop := Below w.heap.size w w'
theorem cell_lt {w : World} {p : Addr} {v : Value} (h : w.cell? p = some v) : p.block < w.heap.size := by
  simp only [World.cell?] at h
  split at h
  · rename_i heq
    exact (Array.getElem?_eq_some_iff.1 heq).1
  · cases h
theorem _root_.Go.RowKit.Below.keep {w w' : World} (g : Grow w w') {p : Addr} {v : Value} (h : w.cell? p = some v) : w'.cell? p = some v := by
  rw [g.cell (cell_lt h)]; exact h
theorem _root_.Go.RowKit.Below.then {w w1 w2 : World} (g : Grow w w1) (h : Grow w1 w2) : Grow w w2 := g.trans (h.mono g.size)
theorem _root_.Go.RowKit.Below.alloc' {w w' : World} (g : Grow w w') (o : Obj) : Grow w (w'.alloc o) := g.alloc g.size o

theorem undrew {w w' : World} (g : Grow w.drew w') : Grow w w' := (Below.refl _ _).drew.then g
/-- A world that has grown out of another one. -/
structure Later (w : World) where
  w' : World
  h : Grow w w'
/-- A callee that hands back one value and makes memory, met in a later world. -/
theorem Calls.later {P : Program} {f : FuncId} {args : Array Value} {w : World} {d : Later w} {v : Value}
    (h : Calls P f args d.w' fun e w' => e = .returned v ∧ Grow d.w' w') : Calls P f args d.w' fun e w'' => e = .returned v ∧ ∃ d' : Later w, w'' = d'.w' :=
  h.mono fun _ w' ⟨he, hg⟩ => ⟨he, ⟨w', d.h.then hg⟩, rfl⟩
/-- A region that draws its order, whose operations read, and whose callees make memory and hand back one value each: one walk in the order of the text. -/
theorem wp_region_later {P : Program} {id : Nat} {Q : Exit → Act → World → Prop} {a : Act} {w : World} {l : List Oper} (hm : P.follows .mixedOrders = true) (hB : Region.lexB .any l.toArray = true)
    (h : wpQuiet P l.toArray (fun w' => ∃ d : Later w, w' = d.w') (fun a' => ∀ w', (∃ d : Later w, w' = d.w') → Q .normal a' w') l a) : (Code.region id l.toArray true).wp P Q a w :=
  wp_region_quiet (C := fun w' => ∃ d : Later w, w' = d.w') hm hB ⟨⟨_, (Below.refl _ _).drew⟩, rfl⟩ (by simpa using h)
theorem bne_len {a b : Nat} (h : ((a : Int) != (b : Int)) = false) : a = b := Int.ofNat.inj (by simpa using h)
/-- A row of cells lies at a place. -/
def Has (w : World) (b off : Nat) (cs : List Value) : Prop := ∀ j v, cs[j]? = some v → w.cell? ⟨b, off + j, none⟩ = some v
theorem Has.grow {w w' : World} {b off : Nat} {cs : List Value} (h : Has w b off cs) (g : Grow w w') : Has w' b off cs :=
  fun j v hj => g.keep (h j v hj)
/-- The elements of a slice lie where its header says: each takes as many cells as its list has. -/
def Lies {α : Type} (w : World) (p : Option Addr) (cap size : Nat) (cells : α → List Value) (l : List α) : Prop :=
  (l.length ≤ cap ∧ cap ≤ 9223372036854775807) ∧ (l = [] ∨ ∃ b off, p = some ⟨b, off, none⟩ ∧ b < w.heap.size ∧ ∀ i x, l[i]? = some x → Has w b (off + i * size) (cells x))
theorem Lies.bound {α : Type} {w : World} {p : Option Addr} {cap size : Nat} {cells : α → List Value} {l : List α} (h : Lies w p cap size cells l) : l.length ≤ 9223372036854775807 :=
  Nat.le_trans h.1.1 h.1.2
theorem Lies.elem {α : Type} {w : World} {p : Option Addr} {cap size : Nat} {cells : α → List Value} {l : List α} (h : Lies w p cap size cells l) {i : Nat} {x : α} (hi : l[i]? = some x) :
    ∃ b off, p = some ⟨b, off, none⟩ ∧ b < w.heap.size ∧ Has w b (off + i * size) (cells x) := by
  obtain ⟨_, h | ⟨b, off, hp, hb, hc⟩⟩ := h
  · simp [h] at hi
  · exact ⟨b, off, hp, hb, hc i _ hi⟩
theorem Lies.grow {α : Type} {w w' : World} {p : Option Addr} {cap size : Nat} {cells : α → List Value} {l : List α} (h : Lies w p cap size cells l) (g : Grow w w') : Lies w' p cap size cells l :=
  ⟨h.1, h.2.imp id fun ⟨b, off, hp, hb, hc⟩ => ⟨b, off, hp, Nat.lt_of_lt_of_le hb g.size, fun i x hi => (hc i x hi).grow g⟩⟩

/-- A value (api.Value): kind, int, text, the list's slice header, the list, cut. -/
inductive V where
  | mk (k n : Int) (t : ByteArray) (p : Option Addr) (cap : Nat) (l : List V) (c : Bool)
def V.k : V → Int | .mk k _ _ _ _ _ _ => k
def V.n : V → Int | .mk _ n _ _ _ _ _ => n
def V.t : V → ByteArray | .mk _ _ t _ _ _ _ => t
def V.p : V → Option Addr | .mk _ _ _ p _ _ _ => p
def V.cap : V → Nat | .mk _ _ _ _ c _ _ => c
def V.l : V → List V | .mk _ _ _ _ _ l _ => l
def V.c : V → Bool | .mk _ _ _ _ _ _ c => c
def V.cells (v : V) : List Value := [.int .u8 v.k, .int .i64 v.n, .string v.t, .slice v.p v.l.length v.cap, .bool v.c]
abbrev V.agg (v : V) : Value := .agg #[.int .u8 v.k, .int .i64 v.n, .string v.t, .slice v.p v.l.length v.cap, .bool v.c]
mutual
def V.size : V → Nat
  | .mk _ _ _ _ _ l _ => V.sizes l + 1
def V.sizes : List V → Nat
  | [] => 0
  | x :: r => V.size x + V.sizes r
end
theorem V.size_mem {x : V} {l : List V} (h : x ∈ l) : x.size ≤ V.sizes l := by
  induction l with
  | nil => cases h
  | cons y r ih =>
    simp only [V.sizes]
    rcases List.mem_cons.1 h with rfl | h
    · omega
    · have := ih h; omega
inductive V.In (w : World) : V → Prop
  | mk {k n t p cap l c} (h : Lies w p cap 5 V.cells l) (hs : ∀ x, x ∈ l → V.In w x) : V.In w (.mk k n t p cap l c)
theorem V.In.grow {w w' : World} {v : V} (h : v.In w) (g : Grow w w') : v.In w' := by
  induction h with
  | mk h _ ih => exact .mk (h.grow g) ih
theorem Has.v {w : World} {b off : Nat} {x : V} (h : Has w b off x.cells) : w.cell? ⟨b, off, none⟩ = some (.int .u8 x.k) ∧ w.cell? ⟨b, off + 1, none⟩ = some (.int .i64 x.n) ∧ w.cell? ⟨b, off + 2, none⟩ = some (.string x.t) ∧ w.cell? ⟨b, off + 3, none⟩ = some (.slice x.p x.l.length x.cap) ∧ w.cell? ⟨b, off + 4, none⟩ = some (.bool x.c) :=
  ⟨h 0 _ rfl, h 1 _ rfl, h 2 _ rfl, h 3 _ rfl, h 4 _ rfl⟩

/-- Two lists go together by a test of their elements. -/
def allSame {α : Type} (f : α → α → Bool) : List α → List α → Bool
  | [], [] => true
  | x :: r, y :: s => f x y && allSame f r s
  | _, _ => false
/-- The first k elements of both go together. -/
def Upto {α : Type} (f : α → α → Bool) (k : Nat) (l m : List α) : Prop := ∀ i x y, i < k → l[i]? = some x → m[i]? = some y → f x y = true
theorem Upto.zero {α : Type} (f : α → α → Bool) (l m : List α) : Upto f 0 l m := fun i _ _ h => absurd h (by omega)
theorem Upto.succ {α : Type} {f : α → α → Bool} {k : Nat} {l m : List α} (h : Upto f k l m) {x y : α} (hx : l[k]? = some x) (hy : m[k]? = some y) (hf : f x y = true) : Upto f (k + 1) l m := by
  intro i x' y' hi hx' hy'
  by_cases e : i = k
  · subst e; rw [hx] at hx'; rw [hy] at hy'; cases hx'; cases hy'; exact hf
  · exact h i x' y' (by omega) hx' hy'
theorem allSame_len {α : Type} {f : α → α → Bool} {l m : List α} (h : l.length ≠ m.length) : allSame f l m = false := by
  induction l generalizing m with
  | nil => cases m with
    | nil => simp at h
    | cons y s => rfl
  | cons x r ih => cases m with
    | nil => rfl
    | cons y s => simp only [allSame]; rw [ih (by simpa using h)]; simp
theorem Upto.all {α : Type} {f : α → α → Bool} {l m : List α} (hl : l.length = m.length) (h : Upto f l.length l m) : allSame f l m = true := by
  induction l generalizing m with
  | nil => cases m with
    | nil => rfl
    | cons y s => simp at hl
  | cons x r ih => cases m with
    | nil => simp at hl
    | cons y s =>
      simp only [allSame, Bool.and_eq_true]
      exact ⟨h 0 x y (by simp) rfl rfl, ih (by simpa using hl) fun i a b hi ha hb => h (i + 1) a b (by simp; omega) (by simpa using ha) (by simpa using hb)⟩
theorem allSame_not {α : Type} {f : α → α → Bool} {l m : List α} {i : Nat} {x y : α} (hx : l[i]? = some x) (hy : m[i]? = some y) (hf : f x y = false) : allSame f l m = false := by
  induction l generalizing m i with
  | nil => simp at hx
  | cons a r ih => cases m with
    | nil => simp at hy
    | cons b s =>
      simp only [allSame]
      cases i with
      | zero => simp at hx hy; subst hx hy; simp [hf]
      | succ i => rw [ih (by simpa using hx) (by simpa using hy)]; simp
theorem bytes_ext {s t : ByteArray} (h : s.toList = t.toList) : s = t := by
  obtain ⟨⟨x⟩⟩ := s
  obtain ⟨⟨y⟩⟩ := t
  rw [ByteArray.toList_eq, ByteArray.toList_eq] at h
  simp at h
  rw [h]
mutual
def V.same : V → V → Bool
  | .mk k n t _ _ l c, .mk k' n' t' _ _ l' c' => k == k' && n == n' && t.toList == t'.toList && c == c' && V.sames l l'
def V.sames : List V → List V → Bool
  | [], [] => true
  | x :: r, y :: s => V.same x y && V.sames r s
  | _, _ => false
end
theorem V.sames_eq (l m : List V) : V.sames l m = allSame V.same l m := by
  induction l generalizing m with
  | nil => cases m <;> rfl
  | cons x r ih => cases m with
    | nil => rfl
    | cons y s => simp only [V.sames, allSame, ih]
theorem getElem?_mem' {α : Type} {l : List α} {i : Nat} {x : α} (h : l[i]? = some x) : x ∈ l := List.mem_of_getElem? h
structure Loc where
  slot : Int
  v : V
def Loc.cells (x : Loc) : List Value := [.int .i64 x.slot, .int .u8 x.v.k, .int .i64 x.v.n, .string x.v.t, .slice x.v.p x.v.l.length x.v.cap, .bool x.v.c]
abbrev Loc.agg (x : Loc) : Value := .agg #[.int .i64 x.slot, .int .u8 x.v.k, .int .i64 x.v.n, .string x.v.t, .slice x.v.p x.v.l.length x.v.cap, .bool x.v.c]
structure Loc.In (w : World) (x : Loc) : Prop where
  v : x.v.In w
theorem Loc.In.grow {w w' : World} {x : Loc} (h : x.In w) (g : Grow w w') : x.In w' := ⟨(h.v.grow g)⟩
theorem Has.loc {w : World} {b off : Nat} {x : Loc} (h : Has w b off x.cells) : w.cell? ⟨b, off, none⟩ = some (.int .i64 x.slot) ∧ w.cell? ⟨b, off + 1, none⟩ = some (.int .u8 x.v.k) ∧ w.cell? ⟨b, off + 2, none⟩ = some (.int .i64 x.v.n) ∧ w.cell? ⟨b, off + 3, none⟩ = some (.string x.v.t) ∧ w.cell? ⟨b, off + 4, none⟩ = some (.slice x.v.p x.v.l.length x.v.cap) ∧ w.cell? ⟨b, off + 5, none⟩ = some (.bool x.v.c) :=
  ⟨h 0 _ rfl, h 1 _ rfl, h 2 _ rfl, h 3 _ rfl, h 4 _ rfl, h 5 _ rfl⟩
structure Fr where
  fn : Int
  ip : Int
  mode : Int
  lsP : Option Addr
  lsC : Nat
  ls : List Loc
def Fr.cells (x : Fr) : List Value := [.int .i64 x.fn, .int .i64 x.ip, .int .u64 x.mode, .slice x.lsP x.ls.length x.lsC]
abbrev Fr.agg (x : Fr) : Value := .agg #[.int .i64 x.fn, .int .i64 x.ip, .int .u64 x.mode, .slice x.lsP x.ls.length x.lsC]
structure Fr.In (w : World) (x : Fr) : Prop where
  ls : Lies w x.lsP x.lsC 6 Loc.cells x.ls ∧ ∀ y, y ∈ x.ls → Loc.In w y
theorem Fr.In.grow {w w' : World} {x : Fr} (h : x.In w) (g : Grow w w') : x.In w' := ⟨⟨h.ls.1.grow g, fun y hy => (h.ls.2 y hy).grow g⟩⟩
theorem Has.fr {w : World} {b off : Nat} {x : Fr} (h : Has w b off x.cells) : w.cell? ⟨b, off, none⟩ = some (.int .i64 x.fn) ∧ w.cell? ⟨b, off + 1, none⟩ = some (.int .i64 x.ip) ∧ w.cell? ⟨b, off + 2, none⟩ = some (.int .u64 x.mode) ∧ w.cell? ⟨b, off + 3, none⟩ = some (.slice x.lsP x.ls.length x.lsC) :=
  ⟨h 0 _ rfl, h 1 _ rfl, h 2 _ rfl, h 3 _ rfl⟩
structure Df where
  frame : Int
  fn : Int
  has : Bool
  arg : V
def Df.cells (x : Df) : List Value := [.int .i64 x.frame, .int .i64 x.fn, .bool x.has, .int .u8 x.arg.k, .int .i64 x.arg.n, .string x.arg.t, .slice x.arg.p x.arg.l.length x.arg.cap, .bool x.arg.c]
abbrev Df.agg (x : Df) : Value := .agg #[.int .i64 x.frame, .int .i64 x.fn, .bool x.has, .int .u8 x.arg.k, .int .i64 x.arg.n, .string x.arg.t, .slice x.arg.p x.arg.l.length x.arg.cap, .bool x.arg.c]
structure Df.In (w : World) (x : Df) : Prop where
  arg : x.arg.In w
theorem Df.In.grow {w w' : World} {x : Df} (h : x.In w) (g : Grow w w') : x.In w' := ⟨(h.arg.grow g)⟩
theorem Has.df {w : World} {b off : Nat} {x : Df} (h : Has w b off x.cells) : w.cell? ⟨b, off, none⟩ = some (.int .i64 x.frame) ∧ w.cell? ⟨b, off + 1, none⟩ = some (.int .i64 x.fn) ∧ w.cell? ⟨b, off + 2, none⟩ = some (.bool x.has) ∧ w.cell? ⟨b, off + 3, none⟩ = some (.int .u8 x.arg.k) ∧ w.cell? ⟨b, off + 4, none⟩ = some (.int .i64 x.arg.n) ∧ w.cell? ⟨b, off + 5, none⟩ = some (.string x.arg.t) ∧ w.cell? ⟨b, off + 6, none⟩ = some (.slice x.arg.p x.arg.l.length x.arg.cap) ∧ w.cell? ⟨b, off + 7, none⟩ = some (.bool x.arg.c) :=
  ⟨h 0 _ rfl, h 1 _ rfl, h 2 _ rfl, h 3 _ rfl, h 4 _ rfl, h 5 _ rfl, h 6 _ rfl, h 7 _ rfl⟩
structure Pn where
  tag : Int
  v : V
  flags : Int
def Pn.cells (x : Pn) : List Value := [.int .u64 x.tag, .int .u8 x.v.k, .int .i64 x.v.n, .string x.v.t, .slice x.v.p x.v.l.length x.v.cap, .bool x.v.c, .int .u64 x.flags]
abbrev Pn.agg (x : Pn) : Value := .agg #[.int .u64 x.tag, .int .u8 x.v.k, .int .i64 x.v.n, .string x.v.t, .slice x.v.p x.v.l.length x.v.cap, .bool x.v.c, .int .u64 x.flags]
structure Pn.In (w : World) (x : Pn) : Prop where
  v : x.v.In w
theorem Pn.In.grow {w w' : World} {x : Pn} (h : x.In w) (g : Grow w w') : x.In w' := ⟨(h.v.grow g)⟩
theorem Has.pn {w : World} {b off : Nat} {x : Pn} (h : Has w b off x.cells) : w.cell? ⟨b, off, none⟩ = some (.int .u64 x.tag) ∧ w.cell? ⟨b, off + 1, none⟩ = some (.int .u8 x.v.k) ∧ w.cell? ⟨b, off + 2, none⟩ = some (.int .i64 x.v.n) ∧ w.cell? ⟨b, off + 3, none⟩ = some (.string x.v.t) ∧ w.cell? ⟨b, off + 4, none⟩ = some (.slice x.v.p x.v.l.length x.v.cap) ∧ w.cell? ⟨b, off + 5, none⟩ = some (.bool x.v.c) ∧ w.cell? ⟨b, off + 6, none⟩ = some (.int .u64 x.flags) :=
  ⟨h 0 _ rfl, h 1 _ rfl, h 2 _ rfl, h 3 _ rfl, h 4 _ rfl, h 5 _ rfl, h 6 _ rfl⟩
structure Ro where
  status : Int
  key : Int
  fsP : Option Addr
  fsC : Nat
  fs : List Fr
  dsP : Option Addr
  dsC : Nat
  ds : List Df
  psP : Option Addr
  psC : Nat
  ps : List Pn
def Ro.cells (x : Ro) : List Value := [.int .u8 x.status, .int .i64 x.key, .slice x.fsP x.fs.length x.fsC, .slice x.dsP x.ds.length x.dsC, .slice x.psP x.ps.length x.psC]
abbrev Ro.agg (x : Ro) : Value := .agg #[.int .u8 x.status, .int .i64 x.key, .slice x.fsP x.fs.length x.fsC, .slice x.dsP x.ds.length x.dsC, .slice x.psP x.ps.length x.psC]
structure Ro.In (w : World) (x : Ro) : Prop where
  fs : Lies w x.fsP x.fsC 4 Fr.cells x.fs ∧ ∀ y, y ∈ x.fs → Fr.In w y
  ds : Lies w x.dsP x.dsC 8 Df.cells x.ds ∧ ∀ y, y ∈ x.ds → Df.In w y
  ps : Lies w x.psP x.psC 7 Pn.cells x.ps ∧ ∀ y, y ∈ x.ps → Pn.In w y
theorem Ro.In.grow {w w' : World} {x : Ro} (h : x.In w) (g : Grow w w') : x.In w' := ⟨⟨h.fs.1.grow g, fun y hy => (h.fs.2 y hy).grow g⟩, ⟨h.ds.1.grow g, fun y hy => (h.ds.2 y hy).grow g⟩, ⟨h.ps.1.grow g, fun y hy => (h.ps.2 y hy).grow g⟩⟩
theorem Has.ro {w : World} {b off : Nat} {x : Ro} (h : Has w b off x.cells) : w.cell? ⟨b, off, none⟩ = some (.int .u8 x.status) ∧ w.cell? ⟨b, off + 1, none⟩ = some (.int .i64 x.key) ∧ w.cell? ⟨b, off + 2, none⟩ = some (.slice x.fsP x.fs.length x.fsC) ∧ w.cell? ⟨b, off + 3, none⟩ = some (.slice x.dsP x.ds.length x.dsC) ∧ w.cell? ⟨b, off + 4, none⟩ = some (.slice x.psP x.ps.length x.psC) :=
  ⟨h 0 _ rfl, h 1 _ rfl, h 2 _ rfl, h 3 _ rfl, h 4 _ rfl⟩
structure St where
  out : Int
  failing : Int
  steps : Int
  rsP : Option Addr
  rsC : Nat
  rs : List Ro
def St.cells (x : St) : List Value := [.int .u8 x.out, .int .i64 x.failing, .int .i64 x.steps, .slice x.rsP x.rs.length x.rsC]
abbrev St.agg (x : St) : Value := .agg #[.int .u8 x.out, .int .i64 x.failing, .int .i64 x.steps, .slice x.rsP x.rs.length x.rsC]
structure St.In (w : World) (x : St) : Prop where
  rs : Lies w x.rsP x.rsC 5 Ro.cells x.rs ∧ ∀ y, y ∈ x.rs → Ro.In w y
theorem St.In.grow {w w' : World} {x : St} (h : x.In w) (g : Grow w w') : x.In w' := ⟨⟨h.rs.1.grow g, fun y hy => (h.rs.2 y hy).grow g⟩⟩
theorem Has.st {w : World} {b off : Nat} {x : St} (h : Has w b off x.cells) : w.cell? ⟨b, off, none⟩ = some (.int .u8 x.out) ∧ w.cell? ⟨b, off + 1, none⟩ = some (.int .i64 x.failing) ∧ w.cell? ⟨b, off + 2, none⟩ = some (.int .i64 x.steps) ∧ w.cell? ⟨b, off + 3, none⟩ = some (.slice x.rsP x.rs.length x.rsC) :=
  ⟨h 0 _ rfl, h 1 _ rfl, h 2 _ rfl, h 3 _ rfl⟩
def Loc.same (x y : Loc) : Bool := x.slot == y.slot && V.same x.v y.v
def Fr.same (x y : Fr) : Bool := x.fn == y.fn && x.ip == y.ip && x.mode == y.mode && allSame Loc.same x.ls y.ls
def Df.same (x y : Df) : Bool := x.frame == y.frame && x.fn == y.fn && x.has == y.has && V.same x.arg y.arg
def Pn.same (x y : Pn) : Bool := x.tag == y.tag && x.flags == y.flags && V.same x.v y.v
def Ro.same (x y : Ro) : Bool := x.status == y.status && x.key == y.key && allSame Fr.same x.fs y.fs && allSame Df.same x.ds y.ds && allSame Pn.same x.ps y.ps
def St.same (x y : St) : Bool := x.out == y.out && x.failing == y.failing && x.steps == y.steps && allSame Ro.same x.rs y.rs
theorem ret_bool {v : Value} {x y : Bool} (hv : v = .bool x) (h : x = y) : Ending.returned v = .returned (.bool y) := by rw [hv, h]
theorem V.In.lies {w : World} {v : V} (h : v.In w) : Lies w v.p v.cap 5 V.cells v.l := by cases h with | mk h _ => exact h
theorem V.In.mem {w : World} {v : V} (h : v.In w) : ∀ x, x ∈ v.l → V.In w x := by cases h with | mk _ h => exact h
theorem V.same_eq (a b : V) : V.same a b = (a.k == b.k && a.n == b.n && a.t.toList == b.t.toList && a.c == b.c && allSame V.same a.l b.l) := by
  cases a; cases b; simp only [V.same, V.sames_eq, V.k, V.n, V.t, V.c, V.l]
theorem V.size_lt {v x : V} (h : x ∈ v.l) : x.size < v.size := by
  cases v; have := V.size_mem h; simp only [V.size, V.l] at *; omega
theorem V.size_pos (v : V) : 0 < v.size := by cases v; simp [V.size]
end Go.Proofs.Ytflbiiflbehleaa
