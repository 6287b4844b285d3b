import Derived.KernelRfl
import GoSem.Core.Program
import GoSem.Core.View
import GoSem.Core.Region
import GoSem.Core.Layout
/- The evaluator: its data, and how they are read and written. -/
namespace Go.Proofs.YtlffjnddiiojnaaGreatDoor.Ev
noncomputable section

/-- A trie over numbers: 0 at the root, odd numbers to the left, even ones to the right. A list is one that leans to the right. -/
inductive Tr (α : Type) where
  | lf
  | nd (v : α) (l r : Tr α)

/-- Abstract values. int: kind, bits. str: bytes in one number, how many. ptr: block, offset. ms: a slice of a block: block, offset (in cells), length, cells an element. vs: a slice that nobody writes: a row of elements, the first one, how many, cells an element. agg: a list of cells, how many. tup: a list. x: the others, by a number: 0 unknown · 1 an address in a row that nobody writes (row, offset in cells, how many cells from there on, cells an element) · 3 a function (list of first arguments and of what it captured; the function, how many of each) · 4 a map (block) · 5 a loop's body (the loop's block) · 6 a slice of no capacity · 7 nil pointer · 8 nil slice · 9 nil function · 10 nil map · 11 nil interface · 12 an interface's value (a list of one; its type). -/
inductive AV where
  | int (k n : Nat)
  | bool (b : Bool)
  | str (s n : Nat)
  | ptr (b o : Nat)
  | ms (b o n z : Nat)
  | vs (t : Tr AV) (o n z : Nat)
  | agg (t : Tr AV) (n : Nat)
  | tup (t : Tr AV) (n : Nat)
  | x (g : Nat) (t : Tr AV) (a b c : Nat)

abbrev Row := Tr AV
abbrev AV.undef : AV := .x 0 .lf 0 0 0

inductive Fr where
  | e
  | n (a b c d e f g h : AV) (r : Fr)

/-- A block: gone; elements (may they be written, is each cell a plain value, cells an element, how many cells are known); a map's keys and values in turn; a loop over a function (0 ready, 1 busy, 2 left by a return, n + 3 left to n; the function, which loop, the frame); handed over to another heap. -/
inductive Blk where
  | dead
  | row (rw fl : Bool) (z sz : Nat) (t : Row)
  | map (n : Nat) (t : Row)
  | loop (st f i : Nat) (fr : Fr)
  | fwd (id : Nat)

/-- The heap: blocks by number, the next number, blocks that may not be written, the first number of the region that is run. -/
structure Hp where
  t : Tr Blk
  nx : Nat
  pr : List Nat
  rb : Nat
abbrev Hp.empty : Hp := ⟨.lf, 0, [], 0⟩

inductive Res where
  | ok (fr : Fr) (hp : Hp)
  | exit (n : Nat) (fr : Fr) (hp : Hp)
  | ret (fr : Fr) (hp : Hp)
  | val (v : AV) (hp : Hp)
  | fail

/-- Code behind a point: the stack of temporaries, the frame, the heap. -/
structure Sm where
  run : Row → Fr → Hp → Res

structure GK (α : Type) where
  f : Tr α → Nat → (α → Res) → Res
structure SK (α : Type) where
  f : Tr α → Nat → α → (Tr α → Res) → Res

def gkS {α : Type} (d : α) (ih : GK α) : GK α := ⟨fun t i k => Tr.rec (motive := fun _ => Res) (k d) (fun v l r _ _ => Nat.rec (motive := fun _ => Res) (k v) (fun j _ => Nat.rec (motive := fun _ => Res) (ih.f l (Nat.div j 2) k) (fun _ _ => ih.f r (Nat.div j 2) k) (Nat.mod j 2)) i) t⟩
def gk {α : Type} (d : α) (n : Nat) : GK α := Nat.rec (motive := fun _ => GK α) ⟨fun _ _ _ => .fail⟩ (fun _ ih => gkS d ih) n
def skS {α : Type} (d : α) (ih : SK α) : SK α := ⟨fun t i x k => Tr.rec (motive := fun _ => Res)
      (Nat.rec (motive := fun _ => Res) (k (.nd x .lf .lf)) (fun j _ => Nat.rec (motive := fun _ => Res) (ih.f .lf (Nat.div j 2) x fun l => k (.nd d l .lf)) (fun _ _ => ih.f .lf (Nat.div j 2) x fun r => k (.nd d .lf r)) (Nat.mod j 2)) i)
      (fun v l r _ _ => Nat.rec (motive := fun _ => Res) (k (.nd x l r)) (fun j _ => Nat.rec (motive := fun _ => Res) (ih.f l (Nat.div j 2) x fun l' => k (.nd v l' r)) (fun _ _ => ih.f r (Nat.div j 2) x fun r' => k (.nd v l r')) (Nat.mod j 2)) i) t⟩
def sk {α : Type} (d : α) (n : Nat) : SK α := Nat.rec (motive := fun _ => SK α) ⟨fun _ _ _ _ => .fail⟩ (fun _ ih => skS d ih) n
/-- Memory: how rows and heaps are read and written. -/
structure Mem where
  rg : GK AV
  rs : SK AV
  hg : GK Blk
  hs : SK Blk
def mem : Mem := ⟨gk .undef 24, sk .undef 24, gk .dead 24, sk .dead 24⟩

def forceN (n : Nat) (k : Nat → Res) : Res := Nat.rec (motive := fun _ => Res) (k 0) (fun m _ => k (Nat.succ m)) n
def forceB (b : Bool) (k : Bool → Res) : Res := Bool.rec (motive := fun _ => Res) (k false) (k true) b

/-- How a value is read: off the stack, off the frame, or a known one. -/
structure Rd where
  get : Row → Fr → (AV → Res) → Res
/-- A frame's slot, by its number. -/
structure FS where
  f : Fr → AV → (Fr → Res) → Res
def fget : Nat → Rd
  | 0 => ⟨fun _ fr k => Fr.rec (motive := fun _ => Res) .fail (fun a _ _ _ _ _ _ _ _ _ => k a) fr⟩
  | 1 => ⟨fun _ fr k => Fr.rec (motive := fun _ => Res) .fail (fun _ a _ _ _ _ _ _ _ _ => k a) fr⟩
  | 2 => ⟨fun _ fr k => Fr.rec (motive := fun _ => Res) .fail (fun _ _ a _ _ _ _ _ _ _ => k a) fr⟩
  | 3 => ⟨fun _ fr k => Fr.rec (motive := fun _ => Res) .fail (fun _ _ _ a _ _ _ _ _ _ => k a) fr⟩
  | 4 => ⟨fun _ fr k => Fr.rec (motive := fun _ => Res) .fail (fun _ _ _ _ a _ _ _ _ _ => k a) fr⟩
  | 5 => ⟨fun _ fr k => Fr.rec (motive := fun _ => Res) .fail (fun _ _ _ _ _ a _ _ _ _ => k a) fr⟩
  | 6 => ⟨fun _ fr k => Fr.rec (motive := fun _ => Res) .fail (fun _ _ _ _ _ _ a _ _ _ => k a) fr⟩
  | 7 => ⟨fun _ fr k => Fr.rec (motive := fun _ => Res) .fail (fun _ _ _ _ _ _ _ a _ _ => k a) fr⟩
  | n + 8 => let g := fget n; ⟨fun sk fr k => Fr.rec (motive := fun _ => Res) .fail (fun _ _ _ _ _ _ _ _ r _ => g.get sk r k) fr⟩
def fset : Nat → FS
  | 0 => ⟨fun fr x k => Fr.rec (motive := fun _ => Res) .fail (fun _ b c d e f g h r _ => k (.n x b c d e f g h r)) fr⟩
  | 1 => ⟨fun fr x k => Fr.rec (motive := fun _ => Res) .fail (fun a _ c d e f g h r _ => k (.n a x c d e f g h r)) fr⟩
  | 2 => ⟨fun fr x k => Fr.rec (motive := fun _ => Res) .fail (fun a b _ d e f g h r _ => k (.n a b x d e f g h r)) fr⟩
  | 3 => ⟨fun fr x k => Fr.rec (motive := fun _ => Res) .fail (fun a b c _ e f g h r _ => k (.n a b c x e f g h r)) fr⟩
  | 4 => ⟨fun fr x k => Fr.rec (motive := fun _ => Res) .fail (fun a b c d _ f g h r _ => k (.n a b c d x f g h r)) fr⟩
  | 5 => ⟨fun fr x k => Fr.rec (motive := fun _ => Res) .fail (fun a b c d e _ g h r _ => k (.n a b c d e x g h r)) fr⟩
  | 6 => ⟨fun fr x k => Fr.rec (motive := fun _ => Res) .fail (fun a b c d e f _ h r _ => k (.n a b c d e f x h r)) fr⟩
  | 7 => ⟨fun fr x k => Fr.rec (motive := fun _ => Res) .fail (fun a b c d e f g _ r _ => k (.n a b c d e f g x r)) fr⟩
  | n + 8 => let s := fset n; ⟨fun fr x k => Fr.rec (motive := fun _ => Res) .fail (fun a b c d e f g h r _ => s.f r x fun r => k (.n a b c d e f g h r)) fr⟩
/-- Frames of a number of slots, all unknown. -/
def blank : Nat → Fr
  | m + 8 => .n .undef .undef .undef .undef .undef .undef .undef .undef (blank m)
  | _ => .n .undef .undef .undef .undef .undef .undef .undef .undef .e

/-- The stack: what lies at a depth. -/
def tget : Nat → Rd
  | 0 => ⟨fun sk _ k => Tr.rec (motive := fun _ => Res) .fail (fun v _ _ _ _ => k v) sk⟩
  | n + 1 => let g := tget n; ⟨fun sk fr k => Tr.rec (motive := fun _ => Res) .fail (fun _ _ r _ _ => g.get r fr k) sk⟩

section elim
variable (v : AV)
def AV.onInt (f : Nat → Nat → Res) : Res := @AV.rec (fun _ => Res) (fun _ => Unit) f (fun _ => .fail) (fun _ _ => .fail) (fun _ _ => .fail) (fun _ _ _ _ => .fail) (fun _ _ _ _ _ => .fail) (fun _ _ _ => .fail) (fun _ _ _ => .fail) (fun _ _ _ _ _ _ => .fail) () (fun _ _ _ _ _ _ => ()) v
def AV.onBool (f : Bool → Res) : Res := @AV.rec (fun _ => Res) (fun _ => Unit) (fun _ _ => .fail) f (fun _ _ => .fail) (fun _ _ => .fail) (fun _ _ _ _ => .fail) (fun _ _ _ _ _ => .fail) (fun _ _ _ => .fail) (fun _ _ _ => .fail) (fun _ _ _ _ _ _ => .fail) () (fun _ _ _ _ _ _ => ()) v
def AV.onStr (f : Nat → Nat → Res) : Res := @AV.rec (fun _ => Res) (fun _ => Unit) (fun _ _ => .fail) (fun _ => .fail) f (fun _ _ => .fail) (fun _ _ _ _ => .fail) (fun _ _ _ _ _ => .fail) (fun _ _ _ => .fail) (fun _ _ _ => .fail) (fun _ _ _ _ _ _ => .fail) () (fun _ _ _ _ _ _ => ()) v
def AV.onAgg (f : Row → Nat → Res) : Res := @AV.rec (fun _ => Res) (fun _ => Unit) (fun _ _ => .fail) (fun _ => .fail) (fun _ _ => .fail) (fun _ _ => .fail) (fun _ _ _ _ => .fail) (fun _ _ _ _ _ => .fail) (fun t n _ => f t n) (fun _ _ _ => .fail) (fun _ _ _ _ _ _ => .fail) () (fun _ _ _ _ _ _ => ()) v
def AV.onTup (f : Row → Nat → Res) : Res := @AV.rec (fun _ => Res) (fun _ => Unit) (fun _ _ => .fail) (fun _ => .fail) (fun _ _ => .fail) (fun _ _ => .fail) (fun _ _ _ _ => .fail) (fun _ _ _ _ _ => .fail) (fun _ _ _ => .fail) (fun t n _ => f t n) (fun _ _ _ _ _ _ => .fail) () (fun _ _ _ _ _ _ => ()) v
def AV.onX (f : Nat → Row → Nat → Nat → Nat → Res) : Res := @AV.rec (fun _ => Res) (fun _ => Unit) (fun _ _ => .fail) (fun _ => .fail) (fun _ _ => .fail) (fun _ _ => .fail) (fun _ _ _ _ => .fail) (fun _ _ _ _ _ => .fail) (fun _ _ _ => .fail) (fun _ _ _ => .fail) (fun g t a b c _ => f g t a b c) () (fun _ _ _ _ _ _ => ()) v
/-- An address: of a block, or in a row that nobody writes (offset, cells, cells an element). -/
def AV.onPtr (f : Nat → Nat → Res) (g : Row → Nat → Nat → Nat → Res) : Res := @AV.rec (fun _ => Res) (fun _ => Unit) (fun _ _ => .fail) (fun _ => .fail) (fun _ _ => .fail) f (fun _ _ _ _ => .fail) (fun _ _ _ _ _ => .fail) (fun _ _ _ => .fail) (fun _ _ _ => .fail) (fun i t a b c _ => Bool.rec (motive := fun _ => Res) .fail (g t a b c) (Nat.beq i 1)) () (fun _ _ _ _ _ _ => ()) v
/-- A slice: of a block, of a row, nil (8), of no capacity (6) or a nil map (10), a string. -/
def AV.onSlice (f : Nat → Nat → Nat → Nat → Res) (r : Row → Nat → Nat → Nat → Res) (z : Nat → Res) (s : Nat → Nat → Res) : Res := @AV.rec (fun _ => Res) (fun _ => Unit) (fun _ _ => .fail) (fun _ => .fail) s (fun _ _ => .fail) f (fun t o n z _ => r t o n z) (fun _ _ _ => .fail) (fun _ _ _ => .fail) (fun i _ _ _ _ _ => z i) () (fun _ _ _ _ _ _ => ()) v
/-- All ways. -/
def AV.on (i : Nat → Nat → Res) (b : Bool → Res) (s : Nat → Nat → Res) (p : Nat → Nat → Res) (m : Nat → Nat → Nat → Nat → Res) (r : Row → Nat → Nat → Nat → Res) (a : Row → Nat → Res) (t : Row → Nat → Res) (x : Nat → Row → Nat → Nat → Nat → Res) : Res :=
  @AV.rec (fun _ => Res) (fun _ => Unit) i b s p m (fun t o n z _ => r t o n z) (fun t n _ => a t n) (fun u n _ => t u n) (fun g t a b c _ => x g t a b c) () (fun _ _ _ _ _ _ => ()) v
end elim

/-- What to do where something is so, and where not. -/
def when (b : Bool) (yes no : Res) : Res := Bool.rec (motive := fun _ => Res) no yes b
def must (b : Bool) (yes : Res) : Res := Bool.rec (motive := fun _ => Res) .fail yes b

def Blk.onRow (B : Blk) (f : Bool → Bool → Nat → Nat → Row → Res) : Res := Blk.rec (motive := fun _ => Res) .fail f (fun _ _ => .fail) (fun _ _ _ _ => .fail) (fun _ => .fail) B
def Blk.onMap (B : Blk) (f : Nat → Row → Res) : Res := Blk.rec (motive := fun _ => Res) .fail (fun _ _ _ _ _ => .fail) f (fun _ _ _ _ => .fail) (fun _ => .fail) B
def Blk.onLoop (B : Blk) (f : Nat → Nat → Nat → Fr → Res) : Res := Blk.rec (motive := fun _ => Res) .fail (fun _ _ _ _ _ => .fail) (fun _ _ => .fail) f (fun _ => .fail) B

def Hp.get (M : Mem) (h : Hp) (b : Nat) (k : Blk → Res) : Res := Hp.rec (motive := fun _ => Res) (fun t _ _ _ => M.hg.f t b k) h
def Hp.put (M : Mem) (h : Hp) (b : Nat) (B : Blk) (k : Hp → Res) : Res := Hp.rec (motive := fun _ => Res) (fun t nx pr rb => M.hs.f t b B fun t' => k ⟨t', nx, pr, rb⟩) h
/-- How new blocks are made: with the next number; with a number of the region's own. -/
structure NK where
  f : Hp → Blk → (Nat → Hp → Res) → Res
def newS (M : Mem) : NK := ⟨fun h B k => Hp.rec (motive := fun _ => Res) (fun t nx pr rb => forceN nx fun nx => M.hs.f t nx B fun t' => k nx ⟨t', Nat.succ nx, pr, rb⟩) h⟩
def newD (M : Mem) (i : Nat) : NK := ⟨fun h B k => Hp.rec (motive := fun _ => Res) (fun t nx pr rb => forceN (Nat.add rb i) fun id => M.hs.f t id B fun t' => k id ⟨t', nx, pr, rb⟩) h⟩
/-- A block that holds cells up to a bound. -/
def Hp.use (M : Mem) (h : Hp) (b m : Nat) (k : Bool → Bool → Nat → Nat → Row → Res) : Res := h.get M b fun B => B.onRow fun rw fl z s t => must (Nat.ble m s) (k rw fl z s t)
def notIn (b : Nat) (l : List Nat) (k : Res) : Res := List.rec (motive := fun _ => Res) k (fun a _ ih => Bool.rec (motive := fun _ => Res) ih .fail (Nat.beq a b)) l
/-- The same, to be written. -/
def Hp.own (M : Mem) (h : Hp) (b m : Nat) (k : Bool → Nat → Nat → Row → Res) : Res := h.use M b m fun rw fl z s t => must rw (Hp.rec (motive := fun _ => Res) (fun _ _ pr _ => notIn b pr (k fl z s t)) h)

structure CK where
  f : Row → Nat → Row → Nat → (Row → Res) → Res
/-- Copy n elements. -/
def cp (M : Mem) (n : Nat) : CK := Nat.rec (motive := fun _ => CK) ⟨fun _ _ d _ k => k d⟩ (fun _ ih => ⟨fun s o d p k => M.rg.f s o fun v => M.rs.f d p v fun d' => ih.f s (Nat.succ o) d' (Nat.succ p) k⟩) n
structure RK where
  f : Row → Nat → (Row → Res) → Res
/-- One value, m times. -/
def rep (M : Mem) (v : AV) (m : Nat) : RK := Nat.rec (motive := fun _ => RK) ⟨fun d _ k => k d⟩ (fun _ ih => ⟨fun d p k => M.rs.f d p v fun d' => ih.f d' (Nat.succ p) k⟩) m
/-- A trie of one value, of a depth. -/
def Tr.full {α : Type} (v : α) (n : Nat) : Tr α := Nat.rec (motive := fun _ => Tr α) .lf (fun _ ih => .nd v ih ih) n
def depth (n : Nat) : Nat := Nat.succ (Nat.log2 (Nat.succ n))

/-- Is the cell a plain value: one that leads to no memory? -/
def plainX (g : Nat) : Bool := Bool.rec (motive := fun _ => Bool) false (Nat.ble g 11) (Nat.ble 7 g)
def AV.plain (v : AV) (k : Bool → Res) : Res := v.on (fun _ _ => k true) (fun _ => k true) (fun _ _ => k true) (fun _ _ => k false) (fun _ _ _ _ => k false) (fun _ _ _ _ => k false) (fun _ _ => k false) (fun _ _ => k false) (fun g _ _ _ _ => forceB (plainX g) k)
def and2 (a b : Bool) : Bool := Bool.rec (motive := fun _ => Bool) false b a

/-- Lists: a value at a place; set there; the rest behind so many; the first so many. -/
structure LG where
  f : Row → (AV → Res) → Res
structure LS where
  f : Row → AV → (Row → Res) → Res
structure LD where
  f : Row → (Row → Res) → Res
def lget (n : Nat) : LG := Nat.rec (motive := fun _ => LG) ⟨fun t k => Tr.rec (motive := fun _ => Res) .fail (fun v _ _ _ _ => k v) t⟩ (fun _ ih => ⟨fun t k => Tr.rec (motive := fun _ => Res) .fail (fun _ _ r _ _ => ih.f r k) t⟩) n
def lset (n : Nat) : LS := Nat.rec (motive := fun _ => LS) ⟨fun t x k => Tr.rec (motive := fun _ => Res) .fail (fun _ _ r _ _ => k (.nd x .lf r)) t⟩ (fun _ ih => ⟨fun t x k => Tr.rec (motive := fun _ => Res) .fail (fun v _ r _ _ => ih.f r x fun r => k (.nd v .lf r)) t⟩) n
def ldrop (n : Nat) : LD := Nat.rec (motive := fun _ => LD) ⟨fun t k => k t⟩ (fun _ ih => ⟨fun t k => Tr.rec (motive := fun _ => Res) .fail (fun _ _ r _ _ => ih.f r k) t⟩) n
def ltake (n : Nat) : LD := Nat.rec (motive := fun _ => LD) ⟨fun _ k => k .lf⟩ (fun _ ih => ⟨fun t k => Tr.rec (motive := fun _ => Res) .fail (fun v _ r _ _ => ih.f r fun r => k (.nd v .lf r)) t⟩) n
/-- Is each of a list plain? -/
def lplain (l : Row) (k : Bool → Res) : Res := Tr.rec (motive := fun _ => Res) (k true) (fun v _ _ _ ih => v.plain fun b => when b ih (k false)) l

/-- A cell of a row of elements. -/
def rdC (M : Mem) (z : Nat) (t : Row) (i : Nat) (k : AV → Res) : Res := when (Nat.beq z 1) (M.rg.f t i k) (M.rg.f t (Nat.div i z) fun v => v.onAgg fun l _ => (lget (Nat.mod i z)).f l k)
def wrC (M : Mem) (z : Nat) (t : Row) (i : Nat) (c : AV) (k : Row → Res) : Res := when (Nat.beq z 1) (M.rs.f t i c k) (M.rg.f t (Nat.div i z) fun v => v.onAgg fun l n => (lset (Nat.mod i z)).f l c fun l => M.rs.f t (Nat.div i z) (.agg l n) k)
/-- Cells of a row as a list, from a place on; a list's cells into a row. -/
structure GL where
  f : Row → Nat → (Row → Res) → Res
def getC (M : Mem) (z n : Nat) : GL := Nat.rec (motive := fun _ => GL) ⟨fun _ _ k => k .lf⟩ (fun _ ih => ⟨fun t o k => rdC M z t o fun v => ih.f t (Nat.succ o) fun r => k (.nd v .lf r)⟩) n
structure PL where
  f : Row → Row → Nat → (Row → Res) → Res
def putC (M : Mem) (z n : Nat) : PL := Nat.rec (motive := fun _ => PL) ⟨fun _ t _ k => k t⟩ (fun _ ih => ⟨fun l t o k => Tr.rec (motive := fun _ => Res) .fail (fun v _ r _ _ => wrC M z t o v fun t => ih.f r t (Nat.succ o) k) l⟩) n
/-- A value of so many cells of a row (an aggregate or not). -/
def rdV (M : Mem) (ag : Bool) (sz z : Nat) (t : Row) (o : Nat) (k : AV → Res) : Res :=
  Bool.rec (motive := fun _ => Res) (must (Nat.beq sz 1) (rdC M z t o k))
    (when (Nat.beq sz 1) (rdC M z t o fun v => k (.agg (.nd v .lf .lf) 1))
      (when (and2 (Nat.beq z sz) (Nat.beq (Nat.mod o z) 0)) (M.rg.f t (Nat.div o z) fun v => v.onAgg fun l n => must (Nat.beq n sz) (k (.agg l n)))
        ((getC M z sz).f t o fun l => k (.agg l sz)))) ag
/-- One cell of a value of one cell. -/
def cell1 (v : AV) (k : AV → Bool → Res) : Res := v.on (fun _ _ => k v true) (fun _ => k v true) (fun _ _ => k v true) (fun _ _ => k v false) (fun _ _ _ _ => k v false) (fun _ _ _ _ => k v false)
  (fun l n => must (Nat.beq n 1) ((lget 0).f l fun c => c.plain fun p => k c p)) (fun _ _ => .fail) (fun g _ _ _ _ => must (Nat.ble 1 g) (forceB (plainX g) fun f => k v f))
/-- A value into a row; is it plain? -/
def wrV (M : Mem) (sz z : Nat) (t : Row) (o : Nat) (v : AV) (k : Row → Bool → Res) : Res :=
  when (Nat.beq sz 1) (cell1 v fun c p => wrC M z t o c fun t => k t p)
    (v.onAgg fun l n => must (Nat.beq n sz) (must (Nat.ble 1 sz) (lplain l fun p => when (and2 (Nat.beq z sz) (Nat.beq (Nat.mod o z) 0)) (M.rs.f t (Nat.div o z) v fun t => k t p) ((putC M z sz).f l t o fun t => k t p))))
end
end Go.Proofs.YtlffjnddiiojnaaGreatDoor.Ev

/- The evaluator: what operations do. -/
namespace Go.Proofs.YtlffjnddiiojnaaGreatDoor.Ev
noncomputable section

def kc (k : IntKind) : Nat := IntKind.rec 0 1 2 3 4 5 6 7 k
def kd : Nat → IntKind | 0 => .i8 | 1 => .i16 | 2 => .i32 | 3 => .i64 | 4 => .u8 | 5 => .u16 | 6 => .u32 | _ => .u64
/-- 2 to the number of bits. -/
def md : Nat → Nat | 0 => 256 | 1 => 65536 | 2 => 4294967296 | 3 => 18446744073709551616 | 4 => 256 | 5 => 65536 | 6 => 4294967296 | _ => 18446744073709551616
/-- Half of it where the kind is signed; 0 else: what is added to compare. -/
def hf : Nat → Nat | 0 => 128 | 1 => 32768 | 2 => 2147483648 | 3 => 9223372036854775808 | _ => 0
def big : Nat := 18446744073709551616
def wd : Nat → Nat | 0 => 8 | 1 => 16 | 2 => 32 | 3 => 64 | 4 => 8 | 5 => 16 | 6 => 32 | _ => 64

/-- The bits of a number in another kind: M, H of the old one, M' of the new one. -/
def cvt (M H M' n : Nat) : Nat := Nat.rec (motive := fun _ => Nat) (Nat.mod n M') (fun _ _ => Bool.rec (motive := fun _ => Nat) (Nat.mod n M') (Nat.mod (Nat.add n (Nat.sub big M)) M') (Nat.ble H n)) H

/-- A number that is not below 0. -/
def nonneg (i m : Nat) (k : Res) : Res := when (Nat.ble 4 i) k (must (Nat.ble (Nat.succ m) (hf i)) k)
/-- An index below a bound; a bound that is at most another one. -/
def idxK (v : AV) (n : Nat) (k : Nat → Res) : Res := v.onInt fun i m => must (Nat.ble (Nat.succ m) n) (nonneg i m (k m))
def bndK (v : AV) (n : Nat) (k : Nat → Res) : Res := v.onInt fun i m => must (Nat.ble m n) (nonneg i m (k m))

structure BK where
  f : AV → AV → (AV → Res) → Res
/-- Two integers of one kind. -/
def int2 (i : Nat) (a b : AV) (f : Nat → Nat → Res) : Res := a.onInt fun j x => b.onInt fun l y => must (Nat.beq j i) (must (Nat.beq l i) (f x y))
def intK (i n : Nat) (k : AV → Res) : Res := Nat.rec (motive := fun _ => Res) (k (.int i 0)) (fun m _ => k (.int i (Nat.succ m))) n
/-- The number's size without its sign, and whether it is below 0. -/
def magK (M H n : Nat) (k : Bool → Nat → Res) : Res := Nat.rec (motive := fun _ => Res) (k false n) (fun _ _ => Bool.rec (motive := fun _ => Res) (k false n) (k true (Nat.sub M n)) (Nat.ble H n)) H
def signK (i M : Nat) (s : Bool) (n : Nat) (k : AV → Res) : Res := Bool.rec (motive := fun _ => Res) (intK i (Nat.mod n M) k) (intK i (Nat.mod (Nat.sub M n) M) k) s
def bxor (a b : Bool) : Bool := Bool.rec (motive := fun _ => Bool) b (Bool.rec (motive := fun _ => Bool) true false b) a
def bnot (a : Bool) : Bool := Bool.rec (motive := fun _ => Bool) true false a
/-- A count by which bits are shifted. -/
def cntK (v : AV) (w : Nat) (far : Res) (k : Nat → Res) : Res := v.onInt fun j y => nonneg j y (when (Nat.ble w y) far (k y))
/-- Operations of two integers of kind i: M, H, the number of bits. -/
def ibin (i M H w : Nat) : BinOp → BK
  | .add => ⟨fun a b k => int2 i a b fun x y => intK i (Nat.mod (Nat.add x y) M) k⟩
  | .sub => ⟨fun a b k => int2 i a b fun x y => intK i (Nat.mod (Nat.sub (Nat.add x M) y) M) k⟩
  | .mul => ⟨fun a b k => int2 i a b fun x y => intK i (Nat.mod (Nat.mul x y) M) k⟩
  | .quo => ⟨fun a b k => int2 i a b fun x y => when (Nat.beq y 0) .fail (magK M H x fun s x => magK M H y fun t y => signK i M (bxor s t) (Nat.div x y) k)⟩
  | .rem => ⟨fun a b k => int2 i a b fun x y => when (Nat.beq y 0) .fail (magK M H x fun s x => magK M H y fun _ y => signK i M s (Nat.mod x y) k)⟩
  | .and => ⟨fun a b k => int2 i a b fun x y => intK i (Nat.land x y) k⟩
  | .or => ⟨fun a b k => int2 i a b fun x y => intK i (Nat.lor x y) k⟩
  | .xor => ⟨fun a b k => int2 i a b fun x y => intK i (Nat.xor x y) k⟩
  | .andNot => ⟨fun a b k => int2 i a b fun x y => intK i (Nat.xor x (Nat.land x y)) k⟩
  | .shl => ⟨fun a b k => a.onInt fun j x => must (Nat.beq j i) (cntK b w (k (.int i 0)) fun y => intK i (Nat.mod (Nat.mul x (Nat.pow 2 y)) M) k)⟩
  | .shr => ⟨fun a b k => a.onInt fun j x => must (Nat.beq j i) (Nat.rec (motive := fun _ => Res) (cntK b w (k (.int i 0)) fun y => intK i (Nat.div x (Nat.pow 2 y)) k)
      (fun _ _ => when (Nat.ble H x)
        (cntK b w (k (.int i (Nat.sub M 1))) fun y => intK i (Nat.sub (Nat.sub M 1) (Nat.div (Nat.sub (Nat.sub M 1) x) (Nat.pow 2 y))) k)
        (cntK b w (k (.int i 0)) fun y => intK i (Nat.div x (Nat.pow 2 y)) k)) H)⟩
  | .lss => Nat.rec (motive := fun _ => BK) ⟨fun a b k => int2 i a b fun x y => k (.bool (Nat.ble (Nat.succ x) y))⟩ (fun _ _ => ⟨fun a b k => int2 i a b fun x y => k (.bool (Nat.ble (Nat.succ (Nat.mod (Nat.add x H) M)) (Nat.mod (Nat.add y H) M)))⟩) H
  | .leq => Nat.rec (motive := fun _ => BK) ⟨fun a b k => int2 i a b fun x y => k (.bool (Nat.ble x y))⟩ (fun _ _ => ⟨fun a b k => int2 i a b fun x y => k (.bool (Nat.ble (Nat.mod (Nat.add x H) M) (Nat.mod (Nat.add y H) M)))⟩) H
  | .gtr => Nat.rec (motive := fun _ => BK) ⟨fun a b k => int2 i a b fun x y => k (.bool (Nat.ble (Nat.succ y) x))⟩ (fun _ _ => ⟨fun a b k => int2 i a b fun x y => k (.bool (Nat.ble (Nat.succ (Nat.mod (Nat.add y H) M)) (Nat.mod (Nat.add x H) M)))⟩) H
  | .geq => Nat.rec (motive := fun _ => BK) ⟨fun a b k => int2 i a b fun x y => k (.bool (Nat.ble y x))⟩ (fun _ _ => ⟨fun a b k => int2 i a b fun x y => k (.bool (Nat.ble (Nat.mod (Nat.add y H) M) (Nat.mod (Nat.add x H) M)))⟩) H
  | .eql => ⟨fun a b k => int2 i a b fun x y => k (.bool (Nat.beq x y))⟩
  | .neq => ⟨fun a b k => int2 i a b fun x y => k (.bool (bnot (Nat.beq x y)))⟩
def ibinOf (op : BinOp) : Nat → BK
  | 0 => ibin 0 256 128 8 op
  | 1 => ibin 1 65536 32768 16 op
  | 2 => ibin 2 4294967296 2147483648 32 op
  | 3 => ibin 3 18446744073709551616 9223372036854775808 64 op
  | 4 => ibin 4 256 0 8 op
  | 5 => ibin 5 65536 0 16 op
  | 6 => ibin 6 4294967296 0 32 op
  | _ => ibin 7 18446744073709551616 0 64 op
def str2 (a b : AV) (f : Nat → Nat → Nat → Nat → Res) : Res := a.onStr fun s n => b.onStr fun t m => f s n t m
def strEq (s n t m : Nat) : Bool := Bool.rec (motive := fun _ => Bool) false (Nat.beq s t) (Nat.beq n m)
def strK (s n : Nat) (k : AV → Res) : Res := forceN s fun s => forceN n fun n => k (.str s n)
def sbin : BinOp → BK
  | .add => ⟨fun a b k => str2 a b fun s n t m => must (Nat.ble (Nat.add n m) 9223372036854775807) (strK (Nat.add s (Nat.mul t (Nat.pow 256 n))) (Nat.add n m) k)⟩
  | .eql => ⟨fun a b k => str2 a b fun s n t m => k (.bool (strEq s n t m))⟩
  | .neq => ⟨fun a b k => str2 a b fun s n t m => k (.bool (bnot (strEq s n t m)))⟩
  | _ => ⟨fun _ _ _ => .fail⟩

/-- Two cells that are plain values of a kind: 0 bool, 1 string, i + 2 the integers of kind i. -/
def cellEq (c : Nat) (a b : AV) (k : Bool → Res) : Res :=
  Nat.rec (motive := fun _ => Res) (a.onBool fun x => b.onBool fun y => forceB (bnot (bxor x y)) k)
    (fun c _ => Nat.rec (motive := fun _ => Res) (str2 a b fun s n t m => forceB (strEq s n t m) k) (fun i _ => int2 i a b fun x y => forceB (Nat.beq x y) k) c) c
/-- Is it nil? Of an address (0), a slice (1), a function (2), a map (3), an interface's value (4). -/
def nilX (q g : Nat) : Bool := match q with | 0 => Nat.beq g 1 | 1 => Nat.beq g 6 | 2 => Nat.beq g 3 || Nat.beq g 5 | 3 => Nat.beq g 4 | _ => Nat.beq g 12
def nilK (q : Nat) (v : AV) (k : Bool → Res) : Res :=
  v.on (fun _ _ => .fail) (fun _ => .fail) (fun _ _ => .fail) (fun _ _ => must (Nat.beq q 0) (k false)) (fun _ _ _ _ => must (Nat.beq q 1) (k false)) (fun _ _ _ _ => must (Nat.beq q 1) (k false)) (fun _ _ => .fail) (fun _ _ => .fail)
    (fun g _ _ _ _ => when (Nat.beq g (Nat.add q 7)) (k true) (must (nilX q g) (k false)))
/-- Two lists of plain cells, of kinds. -/
def eqs (l : List Nat) : Row → Row → (Bool → Res) → Res := List.rec (motive := fun _ => Row → Row → (Bool → Res) → Res) (fun _ _ k => k true) (fun c _ ih t u k => Tr.rec (motive := fun _ => Res) .fail (fun a _ r _ _ => Tr.rec (motive := fun _ => Res) .fail (fun b _ s _ _ => cellEq c a b fun x => ih r s fun y => k (and2 x y)) u) t) l
/-- How two values of a type are held against each other: a plain value of a kind; one of them is nil; an aggregate of plain cells of kinds. -/
inductive EqP where
  | cell (c : Nat)
  | nil (q : Nat)
  | cells (l : List Nat)
  | no
def eqV (q : EqP) (a b : AV) (k : Bool → Res) : Res :=
  match q with
  | .cell c => cellEq c a b k
  | .nil q => nilK q a fun x => nilK q b fun y => Bool.rec (motive := fun _ => Res) (must y (k false)) (forceB y k) x
  | .cells l => a.onAgg fun t m => b.onAgg fun u n => must (Nat.beq m l.length) (must (Nat.beq n l.length) (eqs l t u k))
  | .no => .fail
def obin (q : EqP) : BinOp → BK
  | .eql => ⟨fun a b k => eqV q a b fun r => k (.bool r)⟩
  | .neq => ⟨fun a b k => eqV q a b fun r => k (.bool (bnot r))⟩
  | _ => ⟨fun _ _ _ => .fail⟩

/-- A string's bytes into a row. -/
structure UnK where
  f : Nat → Nat → Row → (Row → Res) → Res
def unpack (M : Mem) (n : Nat) : UnK := Nat.rec (motive := fun _ => UnK) ⟨fun _ _ d k => k d⟩ (fun _ ih => ⟨fun s p d k => intK 4 (Nat.mod s 256) fun v => M.rs.f d p v fun d => forceN (Nat.div s 256) fun s => ih.f s (Nat.succ p) d k⟩) n
def loadK (M : Mem) (ag : Bool) (sz : Nat) (v : AV) (hp : Hp) (k : AV → Res) : Res :=
  v.onPtr (fun b o => hp.use M b (Nat.add o sz) fun _ _ z _ t => rdV M ag sz z t o k) (fun t o n z => must (Nat.ble sz n) (rdV M ag sz z t o k))
def storeK (M : Mem) (sz : Nat) (a v : AV) (hp : Hp) (k : Hp → Res) : Res :=
  a.onPtr (fun b o => hp.own M b (Nat.add o sz) fun fl z s t => wrV M sz z t o v fun t f => hp.put M b (.row true (and2 fl f) z s t) k) (fun _ _ _ _ => .fail)
/-- A list's cells into a row of elements of several. -/
def putE (M : Mem) (z : Nat) (n : Nat) : PL := Nat.rec (motive := fun _ => PL) ⟨fun _ t _ k => k t⟩ (fun _ ih => ⟨fun l t e k => (ltake z).f l fun a => (ldrop z).f l fun r => M.rs.f t e (.agg a z) fun t => ih.f r t (Nat.succ e) k⟩) n
/-- A new block of one value of so many cells (z an element). -/
def boxK (M : Mem) (N : NK) (v : AV) (z sz : Nat) (hp : Hp) (k : AV → Hp → Res) : Res :=
  when (Nat.beq sz 1) (cell1 v fun c p => N.f hp (.row true p 1 1 (.nd c .lf .lf)) fun id hp => k (.ptr id 0) hp)
    (v.onAgg fun l n => must (Nat.beq n sz) (lplain l fun p => when (Nat.beq z sz) (N.f hp (.row true p sz sz (.nd v .lf .lf)) fun id hp => k (.ptr id 0) hp)
      (when (Nat.beq z 1) ((putC M 1 sz).f l .lf 0 fun t => N.f hp (.row true p 1 sz t) fun id hp => k (.ptr id 0) hp)
        (must (Nat.ble 2 z) (must (Nat.beq (Nat.mul (Nat.div sz z) z) sz) ((putE M z (Nat.div sz z)).f l .lf 0 fun t => N.f hp (.row true p z sz t) fun id hp => k (.ptr id 0) hp))))))
/-- What is to be read: row, first element, number of elements, plain. -/
def seqK (M : Mem) (z : Nat) (v : AV) (hp : Hp) (k : Row → Nat → Nat → Bool → Res) : Res :=
  v.onSlice (fun b o n y => must (Nat.beq y z) (hp.use M b (Nat.add o (Nat.mul n z)) fun _ fl x _ t => must (Nat.beq x z) (must (Nat.beq (Nat.mod o z) 0) (forceN (Nat.div o z) fun e => k t e n fl)))) (fun t o n y => must (Nat.beq y z) (k t o n false)) (fun g => must (Nat.beq g 8 || Nat.beq g 6) (k .lf 0 0 true)) (fun s n => must (Nat.beq z 1) ((unpack M n).f s 0 .lf fun r => k r 0 n true))
/-- Lengths: of a string (0), a slice (1), a map (2). -/
def lenK (M : Mem) (q : Nat) (v : AV) (hp : Hp) (k : Nat → Res) : Res :=
  v.on (fun _ _ => .fail) (fun _ => .fail) (fun _ n => must (Nat.beq q 0) (k n)) (fun _ _ => .fail) (fun _ _ n _ => must (Nat.beq q 1) (k n)) (fun _ _ n _ => must (Nat.beq q 1) (k n)) (fun _ _ => .fail) (fun _ _ => .fail)
    (fun g _ a _ _ => when (Nat.beq q 1) (must (Nat.beq g 8 || Nat.beq g 6) (k 0)) (must (Nat.beq q 2) (when (Nat.beq g 10) (k 0) (must (Nat.beq g 4) (hp.get M a fun B => B.onMap fun n _ => k n)))))
def appendNew (M : Mem) (N : NK) (z : Nat) (u : Row) (p m : Nat) (f : Bool) (hp : Hp) (k : AV → Hp → Res) : Res :=
  must (Nat.ble m 1073741824) (forceN (Nat.mul m z) fun q => when (Nat.beq p 0) (N.f hp (.row true f z q u) fun id hp => k (.ms id 0 m z) hp) ((cp M m).f u p .lf 0 fun r => N.f hp (.row true f z q r) fun id hp => k (.ms id 0 m z) hp))
def appendOn (M : Mem) (N : NK) (z c n : Nat) (fl : Bool) (r : Row) (u : Row) (p m : Nat) (f : Bool) (hp : Hp) (k : AV → Hp → Res) : Res :=
  (cp M m).f u p r n fun r => hp.put M c .dead fun hp => forceN (Nat.add n m) fun q => must (Nat.ble q 1073741824) (forceN (Nat.mul q z) fun s => N.f hp (.row true (and2 fl f) z s r) fun id hp => k (.ms id 0 q z) hp)
def appendK (M : Mem) (N : NK) (z : Nat) (a b : AV) (hp : Hp) (k : AV → Hp → Res) : Res :=
  seqK M z b hp fun u p m f =>
    a.onSlice (fun c o n y => must (Nat.beq y z) (when (Nat.beq m 0) (k a hp) (hp.own M c (Nat.add o (Nat.mul n z)) fun fl x _ t => must (Nat.beq x z) (must (Nat.beq (Nat.mod o z) 0) (when (Nat.beq o 0) (appendOn M N z c n fl t u p m f hp k) ((cp M n).f t (Nat.div o z) .lf 0 fun r => appendOn M N z c n fl r u p m f hp k))))))
      (fun _ _ _ _ => must (Nat.beq m 0) (k a hp)) (fun g => must (Nat.beq g 8 || Nat.beq g 6) (when (Nat.beq m 0) (k a hp) (appendNew M N z u p m f hp k))) (fun _ _ => .fail)
def copyK (M : Mem) (z : Nat) (a b : AV) (hp : Hp) (k : Nat → Hp → Res) : Res :=
  seqK M z b hp fun u p m f =>
    a.onSlice (fun c o n y => must (Nat.beq y z) (forceN (Bool.rec (motive := fun _ => Nat) m n (Nat.ble n m)) fun q => when (Nat.beq q 0) (k 0 hp) (hp.own M c (Nat.add o (Nat.mul q z)) fun fl x s t => must (Nat.beq x z) (must (Nat.beq (Nat.mod o z) 0) ((cp M q).f u p t (Nat.div o z) fun r => hp.put M c (.row true (and2 fl f) z s r) fun hp => k q hp)))))
      (fun _ _ _ _ => .fail) (fun g => must (Nat.beq g 8 || Nat.beq g 6) (k 0 hp)) (fun _ _ => .fail)
def clearK (M : Mem) (z : Nat) (zero : AV) (a : AV) (hp : Hp) (k : Hp → Res) : Res :=
  a.onSlice (fun c o n y => must (Nat.beq y z) (when (Nat.beq n 0) (k hp) (hp.own M c (Nat.add o (Nat.mul n z)) fun _ x s t => must (Nat.beq x z) (must (Nat.beq (Nat.mod o z) 0) ((rep M zero n).f t (Nat.div o z) fun r => hp.put M c (.row true false z s r) k)))))
    (fun _ _ _ _ => .fail) (fun g => must (Nat.beq g 8 || Nat.beq g 6) (k hp)) (fun _ _ => .fail)
/-- Bounds of a slice: low, high, and whether no capacity is left. -/
def bounds (lo hi mx : Option AV) (n : Nat) (c : Nat → Nat → Bool → Res) : Res :=
  match mx with
  | none => (match hi with
    | none => (match lo with | none => c 0 n false | some v => bndK v n fun l => c l n false)
    | some v => bndK v n fun h => (match lo with | none => c 0 h false | some v => bndK v h fun l => c l h false))
  | some v => bndK v n fun m => (match hi with
    | none => .fail
    | some v => bndK v m fun h => (match lo with | none => c 0 h (Nat.beq m 0) | some v => bndK v h fun l => c l h (Nat.beq m l)))
def sliceK (z : Nat) (x : AV) (lo hi mx : Option AV) (k : AV → Res) : Res :=
  x.onSlice (fun b o n y => must (Nat.beq y z) (bounds lo hi mx n fun l h e => when e (k (.x 6 .lf 0 0 0)) (forceN (Nat.add o (Nat.mul l z)) fun o => forceN (Nat.sub h l) fun n => k (.ms b o n z))))
    (fun t o n y => must (Nat.beq y z) (bounds lo hi mx n fun l h e => when e (k (.x 6 .lf 0 0 0)) (forceN (Nat.add o l) fun o => forceN (Nat.sub h l) fun n => k (.vs t o n z))))
    (fun g => when (Nat.beq g 8) (bounds lo hi mx 0 fun _ _ _ => k (.x 8 .lf 0 0 0)) (must (Nat.beq g 6) (bounds lo hi mx 0 fun _ _ _ => k (.x 6 .lf 0 0 0))))
    (fun _ _ => .fail)
def sliceS (x : AV) (lo hi : Option AV) (k : AV → Res) : Res := x.onStr fun s n => bounds lo hi none n fun l h _ => strK (Nat.mod (Nat.div s (Nat.pow 256 l)) (Nat.pow 256 (Nat.sub h l))) (Nat.sub h l) k
def indexAddr (z : Nat) (x i : AV) (k : AV → Res) : Res :=
  x.onSlice (fun b o n _ => idxK i n fun j => forceN (Nat.add o (Nat.mul j z)) fun p => k (.ptr b p)) (fun t o n y => must (Nat.beq y z) (idxK i n fun j => forceN (Nat.mul (Nat.add o j) z) fun p => k (.x 1 t p z z))) (fun _ => .fail) (fun _ _ => .fail)
def indexArr (z n : Nat) (x i : AV) (k : AV → Res) : Res :=
  x.onPtr (fun b o => idxK i n fun j => forceN (Nat.add o (Nat.mul j z)) fun p => k (.ptr b p)) (fun t o m y => idxK i n fun j => must (Nat.ble (Nat.mul (Nat.succ j) z) m) (forceN (Nat.add o (Nat.mul j z)) fun p => k (.x 1 t p z y)))
def fieldAddr (off : Nat) (x : AV) (k : AV → Res) : Res :=
  x.onPtr (fun b o => forceN (Nat.add o off) fun p => k (.ptr b p)) (fun t o n y => must (Nat.ble off n) (forceN (Nat.add o off) fun p => forceN (Nat.sub n off) fun q => k (.x 1 t p q y)))
def partK (ag : Bool) (sz off : Nat) (x : AV) (k : AV → Res) : Res :=
  x.onAgg fun l n => must (Nat.ble (Nat.add off sz) n) (Bool.rec (motive := fun _ => Res) (must (Nat.beq sz 1) ((lget off).f l k)) ((ldrop off).f l fun l => (ltake sz).f l fun l => k (.agg l sz)) ag)
/-- A part of a list of cells. -/
def setP (off sz : Nat) (l : Row) (v : AV) (k : Row → Res) : Res := when (Nat.beq sz 1) (cell1 v fun c _ => (lset off).f l c k) (v.onAgg fun u n => must (Nat.beq n sz) (Nat.rec (motive := fun _ => Nat → Row → Row → Res) (fun _ _ l => k l) (fun _ ih i u l => Tr.rec (motive := fun _ => Res) .fail (fun c _ r _ _ => (lset i).f l c fun l => ih (Nat.succ i) r l) u) sz off u l))
/-- Bytes of a row as a string's number. -/
structure PkK where
  f : Row → Nat → (Nat → Res) → Res
def pack (M : Mem) (n : Nat) : PkK := Nat.rec (motive := fun _ => PkK) ⟨fun _ _ k => k 0⟩ (fun _ ih => ⟨fun t o k => M.rg.f t o fun v => v.onInt fun i x => must (Nat.beq i 4) (ih.f t (Nat.succ o) fun r => forceN (Nat.add x (Nat.mul 256 r)) k)⟩) n
/-- The entry of a map: keys that are plain cells. -/
structure FK where
  f : Row → Nat → AV → (Nat → Res) → Res → Res
def findK (M : Mem) (c : Nat) (n : Nat) : FK := Nat.rec (motive := fun _ => FK) ⟨fun _ _ _ _ z => z⟩ (fun _ ih => ⟨fun t i key k z => M.rg.f t i fun a => cellEq c a key fun r => when r (k i) (ih.f t (Nat.succ (Nat.succ i)) key k z)⟩) n
end
end Go.Proofs.YtlffjnddiiojnaaGreatDoor.Ev

/- The evaluator: calls, and code. -/
namespace Go.Proofs.YtlffjnddiiojnaaGreatDoor.Ev
noncomputable section

/-- Free of the heap: slices become rows; the blocks whose cells are handed over are marked. -/
structure ZK where
  f : Hp → AV → (AV → Hp → Res) → Res
structure ZR where
  f : Hp → Row → Nat → Row → Nat → (Row → Hp → Res) → Res
def zr (M : Mem) (z : ZK) (n : Nat) : ZR := Nat.rec (motive := fun _ => ZR) ⟨fun hp _ _ d _ k => k d hp⟩ (fun _ ih => ⟨fun hp t o d p k => M.rg.f t o fun a => z.f hp a fun a hp => M.rs.f d p a fun d => ih.f hp t (Nat.succ o) d (Nat.succ p) k⟩) n
/-- The values of a list. -/
def zl (z : ZK) (l : Row) : Hp → (Row → Hp → Res) → Res := Tr.rec (motive := fun _ => Hp → (Row → Hp → Res) → Res) (fun hp k => k .lf hp) (fun v _ _ _ ih hp k => z.f hp v fun v hp => ih hp fun r hp => k (.nd v .lf r) hp) l
def frzS (M : Mem) (z : ZK) : ZK := ⟨fun hp v k => v.on (fun _ _ => k v hp) (fun _ => k v hp) (fun _ _ => k v hp) (fun _ _ => .fail)
    (fun b o n y => hp.use M b (Nat.add o (Nat.mul n y)) fun _ fl x s t => must (Nat.beq x y) (must (Nat.beq (Nat.mod o y) 0) (hp.put M b (.row false fl y s t) fun hp => when fl (forceN (Nat.div o y) fun e => k (.vs t e n y) hp) ((zr M z n).f hp t (Nat.div o y) .lf 0 fun r hp => k (.vs r 0 n y) hp))))
    (fun _ _ _ _ => k v hp)
    (fun l n => lplain l fun p => when p (k v hp) (zl z l hp fun r hp => k (.agg r n) hp))
    (fun t n => zl z t hp fun r hp => k (.tup r n) hp)
    (fun g t a b c => when (Nat.ble 6 g) (when (Nat.beq g 12) (zl z t hp fun r hp => k (.x g r a b c) hp) (k v hp)) (when (Nat.beq g 1) (k v hp) (must (Nat.beq g 3) (zl z t hp fun r hp => k (.x g r a b c) hp))))⟩
def frz (M : Mem) (m : Nat) : ZK := Nat.rec (motive := fun _ => ZK) ⟨fun _ _ _ => .fail⟩ (fun _ ih => frzS M ih) m

/-- Taken over from another heap; whether a value stands among it that is read in memory that nobody writes. -/
structure IK where
  f : AV → Hp → Hp → Bool → (AV → Hp → Hp → Bool → Res) → Res
structure IR where
  f : Row → Nat → Row → Nat → Hp → Hp → Bool → (Row → Hp → Hp → Bool → Res) → Res
def ir (M : Mem) (z : IK) (n : Nat) : IR := Nat.rec (motive := fun _ => IR) ⟨fun _ _ d _ hc hp b k => k d hc hp b⟩ (fun _ ih => ⟨fun t o d p hc hp b k => M.rg.f t o fun a => z.f a hc hp b fun a hc hp b => M.rs.f d p a fun d => ih.f t (Nat.succ o) d (Nat.succ p) hc hp b k⟩) n
def il (z : IK) (l : Row) : Hp → Hp → Bool → (Row → Hp → Hp → Bool → Res) → Res := Tr.rec (motive := fun _ => Hp → Hp → Bool → (Row → Hp → Hp → Bool → Res) → Res) (fun hc hp b k => k .lf hc hp b) (fun v _ _ _ ih hc hp b k => z.f v hc hp b fun v hc hp b => ih hc hp b fun r hc hp b => k (.nd v .lf r) hc hp b) l
/-- A block. -/
def ib (M : Mem) (z : IK) (c : Nat) (hc hp : Hp) (b : Bool) (k : Nat → Hp → Hp → Bool → Res) : Res :=
  hc.get M c fun B => Blk.rec (motive := fun _ => Res) .fail
    (fun rw fl y s t => when fl (hc.put M c (.fwd hp.nx) fun hc => (newS M).f hp (.row rw fl y s t) fun id hp => k id hc hp (Bool.rec (motive := fun _ => Bool) true b rw))
      ((ir M z (Nat.div s y)).f t 0 .lf 0 hc hp b fun r hc hp b => hc.get M c fun B2 => B2.onRow fun _ _ _ _ _ => forceN (Nat.mul (Nat.div s y) y) fun s => hc.put M c (.fwd hp.nx) fun hc => (newS M).f hp (.row rw false y s r) fun id hp => k id hc hp (Bool.rec (motive := fun _ => Bool) true b rw)))
    (fun n t => (ir M z (Nat.mul 2 n)).f t 0 .lf 0 hc hp b fun r hc hp b => hc.get M c fun B2 => B2.onMap fun _ _ => hc.put M c (.fwd hp.nx) fun hc => (newS M).f hp (.map n r) fun id hp => k id hc hp b)
    (fun _ _ _ _ => .fail) (fun id => k id hc hp b) B
def impS (M : Mem) (z : IK) : IK := ⟨fun v hc hp b k => v.on (fun _ _ => k v hc hp b) (fun _ => k v hc hp b) (fun _ _ => k v hc hp b)
    (fun c o => ib M z c hc hp b fun id hc hp b => k (.ptr id o) hc hp b)
    (fun c o n y => ib M z c hc hp b fun id hc hp b => k (.ms id o n y) hc hp b)
    (fun _ _ _ _ => k v hc hp true)
    (fun l n => lplain l fun p => when p (k v hc hp b) (il z l hc hp b fun r hc hp b => k (.agg r n) hc hp b))
    (fun t n => il z t hc hp b fun r hc hp b => k (.tup r n) hc hp b)
    (fun g t a p c => when (Nat.ble 6 g) (when (Nat.beq g 12) (il z t hc hp b fun r hc hp b => k (.x g r a p c) hc hp b) (k v hc hp b))
      (when (Nat.beq g 1) (k v hc hp true) (when (Nat.beq g 3) (il z t hc hp b fun r hc hp b => k (.x g r a p c) hc hp b) (must (Nat.beq g 4) (ib M z a hc hp b fun id hc hp b => k (.x 4 .lf id p c) hc hp b)))))⟩
def imp (M : Mem) (m : Nat) : IK := Nat.rec (motive := fun _ => IK) ⟨fun _ _ _ _ _ => .fail⟩ (fun _ ih => impS M ih) m

/-- A function that can be run. -/
structure FnS where
  f : Row → Hp → Res
def noFn : FnS := ⟨fun _ _ => .fail⟩
def frzArgs (M : Mem) (hp : Hp) (l : Row) (yes : Row → Hp → Res) (no : Res) : Res :=
  Res.rec (motive := fun _ => Res) (fun _ _ => no) (fun _ _ _ => no) (fun _ _ => no) (fun v h => v.onTup fun r _ => yes r h) no (zl (frz M 24) l hp fun r h => .val (.tup r 0) h)
def pureK (M : Mem) (F : FnS) (a : Row) (hp ho : Hp) (k : AV → Hp → Res) : Res :=
  Res.rec (motive := fun _ => Res) (fun _ _ => .fail) (fun _ _ _ => .fail) (fun _ _ => .fail)
    (fun v hc => (imp M 24).f v hc hp false fun v' _ hp' b => when b ((imp M 24).f v hc ho false fun v _ hp _ => k v hp) (k v' hp')) .fail (F.f a .empty)
def shareK (F : FnS) (a : Row) (hp : Hp) (k : AV → Hp → Res) : Res :=
  Res.rec (motive := fun _ => Res) (fun _ _ => .fail) (fun _ _ _ => .fail) (fun _ _ => .fail)
    (fun v h => Hp.rec (motive := fun _ => Res) (fun t nx _ _ => Hp.rec (motive := fun _ => Res) (fun _ _ pr rb => k v ⟨t, nx, pr, rb⟩) hp) h) .fail (F.f a hp)
def callK (M : Mem) (sh : Bool) (F : FnS) (a : Row) (hp : Hp) (k : AV → Hp → Res) : Res :=
  Bool.rec (motive := fun _ => Res) (frzArgs M hp a (fun a ho => pureK M F a hp ho k) (shareK F a hp k)) (shareK F a hp k) sh

/-- A body of a loop over a function: the frame, the arguments. -/
structure YldS where
  f : Fr → Row → Hp → Res
  g : Fr → Hp → Res
def noYld : YldS := ⟨fun _ _ _ => .fail, fun _ _ => .fail⟩

/-- Where a slot stands. -/
inductive Src where
  | c (v : AV)
  | s (l : Nat)
  | f (i : Nat)
  | no
structure G where
  d : Nat
  m : List (Nat × Src)
abbrev G.e : G := ⟨0, []⟩
/-- What code is compiled in. -/
structure Cx where
  M : Mem
  P : Program
  fn : List (Nat × FnS)
  sh : List Nat
  yl : List (Nat × Nat × YldS)
  gl : List (Nat × AV)
  vars : List Nat
  nt : Nat
  self : Nat

def idxOf (t : Nat) (l : List Nat) : Nat → Src := List.rec (motive := fun _ => Nat → Src) (fun _ => .no) (fun a _ ih i => Bool.rec (motive := fun _ => Src) (ih (Nat.succ i)) (.f i) (Nat.beq a t)) l
def look (C : Cx) (g : G) (t : Nat) : Src := List.rec (motive := fun _ => Src) (idxOf t C.vars 0) (fun a _ ih => Bool.rec (motive := fun _ => Src) ih a.2 (Nat.beq a.1 t)) g.m
def isVar (C : Cx) (t : Nat) : Bool := List.rec (motive := fun _ => Bool) false (fun a _ ih => Bool.rec (motive := fun _ => Bool) ih true (Nat.beq a t)) C.vars
def mkRd (d : Nat) (s : Src) : Rd := match s with
  | .c v => ⟨fun _ _ k => k v⟩
  | .s l => Bool.rec (motive := fun _ => Rd) ⟨fun _ _ _ => .fail⟩ (tget (Nat.sub (Nat.sub d 1) l)) (Nat.ble (Nat.succ l) d)
  | .f i => fget i
  | .no => ⟨fun _ _ _ => .fail⟩
def packL (l : List UInt8) : Nat := List.rec (motive := fun _ => Nat) 0 (fun b _ ih => Nat.add b.toNat (Nat.mul 256 ih)) l
/-- Below this a number stands as it is. -/
def lm : Nat → Nat | 0 => 128 | 1 => 32768 | 2 => 2147483648 | 3 => 9223372036854775808 | 4 => 256 | 5 => 65536 | 6 => 4294967296 | _ => 18446744073709551616
def constCell : Value → AV
  | .int k n => Int.rec (motive := fun _ => AV) (fun m => Bool.rec (motive := fun _ => AV) .undef (.int (kc k) m) (Nat.ble (Nat.succ m) (lm (kc k)))) (fun m => Bool.rec (motive := fun _ => AV) .undef (.int (kc k) (Nat.sub (md (kc k)) (Nat.succ m))) (Nat.ble (Nat.succ m) (hf (kc k)))) n
  | .bool b => .bool b
  | .string s => .str (packL s.data.toList) s.size
  | .pointer none => .x 7 .lf 0 0 0
  | .slice none n c => Bool.rec (motive := fun _ => AV) .undef (.x 8 .lf 0 0 0) (and2 (Nat.beq n 0) (Nat.beq c 0))
  | .nilFunc => .x 9 .lf 0 0 0
  | .map none => .x 10 .lf 0 0 0
  | .nilIface => .x 11 .lf 0 0 0
  | _ => .undef
/-- A list out of values. -/
def listOf (l : List Value) : Row := List.rec (motive := fun _ => Row) .lf (fun v _ ih => .nd (constCell v) .lf ih) l
/-- Are all of them known? -/
def isKnown (v : AV) : Bool := match v with | .x 0 _ _ _ _ => false | _ => true
def allKnown (l : List Value) : Bool := List.rec (motive := fun _ => Bool) true (fun v _ ih => and2 (isKnown (constCell v)) ih) l
def constAV : Value → AV
  | .agg cs => Bool.rec (motive := fun _ => AV) .undef (.agg (listOf cs.toList) cs.size) (allKnown cs.toList)
  | v => constCell v
def src (C : Cx) (g : G) : Operand → Src
  | .tmp t => look C g t
  | .const v => .c (constAV v)
  | .func f => .c (.x 3 .lf f 0 0)
  | .global n => List.rec (motive := fun _ => Src) .no (fun a _ ih => Bool.rec (motive := fun _ => Src) ih (.c a.2) (Nat.beq a.1 n)) C.gl
def rdO (C : Cx) (g : G) (x : Operand) : Rd := mkRd g.d (src C g x)

/-- Where a result goes. -/
structure Pt where
  f : Sm → Row → Fr → Hp → AV → Res
def ptNone : Pt := ⟨fun k sk fr hp _ => k.run sk fr hp⟩
def ptTmp : Pt := ⟨fun k sk fr hp v => k.run (.nd v .lf sk) fr hp⟩
def ptVar (i : Nat) : Pt := let s := fset i; ⟨fun k sk fr hp v => s.f fr v fun fr => k.run sk fr hp⟩
/-- The slots that do not stand for the one that is written. -/
def purge (d i : Nat) (l : List (Nat × Src)) : List (Nat × Src) := List.rec (motive := fun _ => List (Nat × Src)) []
  (fun a _ ih => Bool.rec (motive := fun _ => List (Nat × Src)) (Src.rec (motive := fun _ => List (Nat × Src)) (fun _ => a :: ih) (fun _ => a :: ih) (fun j => Bool.rec (motive := fun _ => List (Nat × Src)) (a :: ih) ih (Nat.beq j i)) ih a.2) ih (Nat.beq a.1 d)) l
/-- The slots but for one. -/
def dropKey (d : Nat) (l : List (Nat × Src)) : List (Nat × Src) := List.rec (motive := fun _ => List (Nat × Src)) [] (fun a _ ih => Bool.rec (motive := fun _ => List (Nat × Src)) (a :: ih) ih (Nat.beq a.1 d)) l
structure PG where
  p : Pt
  g : G
def ptFail : Pt := ⟨fun _ _ _ _ _ => .fail⟩
def dst (C : Cx) (g : G) : Option Nat → PG
  | none => ⟨ptNone, g⟩
  | some d => Bool.rec (motive := fun _ => PG) ⟨ptFail, g⟩ (dstOf C g d) (Nat.ble (Nat.succ d) C.nt)
where dstOf (C : Cx) (g : G) (d : Nat) : PG := match idxOf d C.vars 0 with
    | .f i => ⟨ptVar i, ⟨g.d, purge d i g.m⟩⟩
    | _ => ⟨ptTmp, ⟨Nat.succ g.d, (d, .s g.d) :: dropKey d g.m⟩⟩

def failS : Sm := ⟨fun _ _ _ => .fail⟩
def undefT : AV := .tup .lf 0
section ops
variable (C : Cx) (g : G) (P : Pt) (N : NK) (k : Sm)
def getO {α : Type} (l : List α) : Nat → Option α := List.rec (motive := fun _ => Nat → Option α) (fun _ => none) (fun a _ ih i => Nat.rec (motive := fun _ => Option α) (some a) (fun j _ => ih j) i) l
/-- A type's row, and what it is underneath; its cells. -/
def infoL (P : Program) (t : TypeId) : Option TypeInfo := getO P.types.toList t
def undOf (P : Program) (_ : TypeInfo) : TypeDesc → Option TypeDesc
  | .named _ u => Option.rec (motive := fun _ => Option TypeDesc) none (fun j => some j.desc) (infoL P u)
  | d => some d
def und (P : Program) (t : TypeId) : Option TypeDesc := Option.rec (motive := fun _ => Option TypeDesc) none (fun i => undOf P i i.desc) (infoL P t)
def szOf (P : Program) (t : TypeId) : Nat := Option.rec (motive := fun _ => Nat) 0 (fun i => i.size) (infoL P t)
def isAgg (P : Program) (t : TypeId) : Bool := match und P t with | some (.struct _) | some (.array ..) => true | _ => false
/-- The elements of a slice's type. -/
def slT (P : Program) (t : TypeId) : Option TypeId := match und P t with | some (.slice e) => some e | _ => none
def isU8 (P : Program) (t : TypeId) : Bool := match und P t with | some (.int .u8) => true | _ => false
def known (P : Program) (t : TypeId) : Bool := Option.rec (motive := fun _ => Bool) false (fun _ => true) (und P t)
def iff (b : Bool) (s : Sm) : Sm := Bool.rec (motive := fun _ => Sm) failS s b
def allF (f : Field → Bool) (l : List Field) : Bool := List.rec (motive := fun _ => Bool) true (fun a _ ih => and2 (f a) ih) l
def allP (n : Nat) (l : List (Nat × Operand)) : Bool := List.rec (motive := fun _ => Bool) true (fun a _ ih => and2 (Nat.ble (Nat.succ a.1) n) ih) l
/-- Do all parts lie inside? -/
def fitP (o z : Nat → Nat) (n : Nat) (l : List (Nat × Operand)) : Bool := List.rec (motive := fun _ => Bool) true (fun a _ ih => and2 (Nat.ble (Nat.add (o a.1) (z a.1)) n) ih) l
def elemT (P : Program) (t : TypeId) : TypeId := match und P t with | some (.slice e) => e | some (.array _ e) => e | _ => 0
/-- Cells of an element of a variable of the type. -/
def elemZ (P : Program) (t : TypeId) : Nat := match und P t with | some (.array _ e) => szOf P e | _ => szOf P t
def zeroAV (P : Program) (t : TypeId) : AV := match (infoL P t).bind (·.zero) with | some v => constAV v | none => .undef
/-- The zero value as an element of a row: a bare cell if it has one. -/
def zeroEl (P : Program) (t : TypeId) : AV := match zeroAV P t with | .agg (.nd v _ .lf) 1 => v | v => v
def zeroL (P : Program) (t : TypeId) : Row := match zeroAV P t with | .agg l _ => l | v => .nd v .lf .lf
/-- Is the zero value of the type one of so many cells? -/
def zeroOk (P : Program) (t : TypeId) (z : Nat) : Bool := match zeroAV P t with | .agg _ n => Nat.beq n z | .x 0 _ _ _ _ => false | _ => Nat.beq z 1
def bytesOf (P : Program) (t : TypeId) : Nat := Option.rec (motive := fun _ => Nat) 0 (fun i => i.bytes) (infoL P t)
def fieldOff (fs : Array Field) (f : Nat) : Nat := Option.rec (motive := fun _ => Nat) 0 (fun x => x.offset) (getO fs.toList f)
def fieldT (fs : Array Field) (f : Nat) : TypeId := Option.rec (motive := fun _ => TypeId) 0 (fun x => x.type) (getO fs.toList f)

def c1 (x : Operand) (f : AV → (AV → Res) → Res) : Sm := let a := rdO C g x; ⟨fun sk fr hp => a.get sk fr fun a => f a fun v => P.f k sk fr hp v⟩
def c1h (x : Operand) (f : AV → Hp → (AV → Hp → Res) → Res) : Sm := let a := rdO C g x; ⟨fun sk fr hp => a.get sk fr fun a => f a hp fun v hp => P.f k sk fr hp v⟩
def c2 (x y : Operand) (f : AV → AV → (AV → Res) → Res) : Sm := let a := rdO C g x; let b := rdO C g y; ⟨fun sk fr hp => a.get sk fr fun a => b.get sk fr fun b => f a b fun v => P.f k sk fr hp v⟩
def c2h (x y : Operand) (f : AV → AV → Hp → (AV → Hp → Res) → Res) : Sm := let a := rdO C g x; let b := rdO C g y; ⟨fun sk fr hp => a.get sk fr fun a => b.get sk fr fun b => f a b hp fun v hp => P.f k sk fr hp v⟩
def cMove (x : Operand) : Sm := let a := rdO C g x; ⟨fun sk fr hp => a.get sk fr fun v => P.f k sk fr hp v⟩
def cPick (c x y : Operand) : Sm := let c := rdO C g c; let a := rdO C g x; let b := rdO C g y; ⟨fun sk fr hp => c.get sk fr fun v => v.onBool fun t => when t (a.get sk fr fun v => P.f k sk fr hp v) (b.get sk fr fun v => P.f k sk fr hp v)⟩
def cBox (t : TypeId) (a : Rd) : Sm := let n := szOf C.P t; let z := elemZ C.P t; ⟨fun sk fr hp => a.get sk fr fun a => boxK C.M N a z n hp fun v hp => P.f k sk fr hp v⟩
structure Part where
  o : Nat
  sz : Nat
  x : Rd
structure UK where
  f : Row → Fr → Row → (Row → Res) → Res
/-- Parts into a list of cells. -/
def uk (l : List Part) : UK := List.rec (motive := fun _ => UK) ⟨fun _ _ t k => k t⟩ (fun p _ ih => ⟨fun sk fr t k => p.x.get sk fr fun v => setP p.o p.sz t v fun t => ih.f sk fr t k⟩) l
def partsOf (ps : List (Nat × Operand)) (o z : Nat → Nat) : List Part := List.rec (motive := fun _ => List Part) [] (fun p _ ih => ⟨o p.1, z p.1, rdO C g p.2⟩ :: ih) ps
def buildK (q : UK) (z : Row) (n : Nat) : Sm := ⟨fun sk fr hp => q.f sk fr z fun l => P.f k sk fr hp (.agg l n)⟩
def cBuild (t : TypeId) (ps : Array (Nat × Operand)) : Sm :=
  match und C.P t with
  | some (.struct fs) => iff (and2 (zeroOk C.P t (szOf C.P t)) (and2 (allF (fun f => known C.P f.type) fs.toList) (and2 (allP fs.size ps.toList) (fitP (fieldOff fs) (fun i => szOf C.P (fieldT fs i)) (szOf C.P t) ps.toList)))) <| buildK P k (uk (partsOf C g ps.toList (fieldOff fs) fun i => szOf C.P (fieldT fs i))) (zeroL C.P t) (szOf C.P t)
  | some (.array _ e) => iff (and2 (zeroOk C.P t (szOf C.P t)) (and2 (known C.P e) (fitP (fun i => i * szOf C.P e) (fun _ => szOf C.P e) (szOf C.P t) ps.toList))) <| buildK P k (uk (partsOf C g ps.toList (fun i => i * szOf C.P e) fun _ => szOf C.P e)) (zeroL C.P t) (szOf C.P t)
  | _ => failS
structure VK where
  f : Row → Fr → Row → Bool → (Row → Bool → Res) → Res
/-- Parts into a row of elements. -/
def vk (M : Mem) (z : Nat) (l : List Part) : VK := List.rec (motive := fun _ => VK) ⟨fun _ _ t f k => k t f⟩ (fun p _ ih => ⟨fun sk fr t f k => p.x.get sk fr fun v => wrV M z z t p.o v fun t b => ih.f sk fr t (and2 f b) k⟩) l
def cBuildSlice (t : TypeId) (len : Nat) (ps : Array (Nat × Operand)) : Sm := match slT C.P t with
  | none => failS
  | some e => let z := szOf C.P e; let q := vk C.M z (partsOf C g ps.toList (fun i => i * z) fun _ => z); let r0 := Tr.full (zeroEl C.P e) (depth len); let s := len * z
    iff (and2 (Nat.ble 1 z) (and2 (zeroOk C.P e z) (and2 (Nat.ble s 16777216) (fitP (fun i => i * z) (fun _ => z) s ps.toList)))) ⟨fun sk fr hp => q.f sk fr r0 true fun r f => N.f hp (.row true f z s r) fun id hp => P.f k sk fr hp (.ms id 0 len z)⟩
def cLoad (t : TypeId) (x : Operand) : Sm := let z := szOf C.P t; let ag := isAgg C.P t; let a := rdO C g x; Bool.rec (motive := fun _ => Sm) failS ⟨fun sk fr hp => a.get sk fr fun a => loadK C.M ag z a hp fun v => P.f k sk fr hp v⟩ (known C.P t)
def cStore (t : TypeId) (x y : Operand) : Sm := let z := szOf C.P t; let a := rdO C g x; let b := rdO C g y; iff (Nat.ble 1 z) ⟨fun sk fr hp => a.get sk fr fun a => b.get sk fr fun v => storeK C.M z a v hp fun hp => P.f k sk fr hp undefT⟩
def cNilCheck (x : Operand) : Sm := c1 C g P k x fun v k => v.on (fun _ _ => .fail) (fun _ => .fail) (fun _ _ => .fail) (fun _ _ => k v) (fun _ _ _ _ => .fail) (fun _ _ _ _ => .fail) (fun _ _ => .fail) (fun _ _ => .fail) (fun g _ _ _ _ => must (Nat.beq g 1 || Nat.beq g 3 || Nat.beq g 5 || Nat.beq g 12) (k v))
def appL (a b : List Nat) : List Nat := List.rec (motive := fun _ => List Nat) b (fun x _ ih => x :: ih) a
/-- Lists of kinds, one behind the other. -/
def catO (l : List (Option (List Nat))) : Option (List Nat) := List.rec (motive := fun _ => Option (List Nat)) (some []) (fun a _ ih => Option.rec (motive := fun _ => Option (List Nat)) none (fun x => Option.rec (motive := fun _ => Option (List Nat)) none (fun y => some (appL x y)) ih) a) l
/-- The kinds of a struct's cells: its fields lie one behind the other, from o on. -/
def fieldKs (f : TypeId → Option (List Nat)) (l : List Field) : Nat → Option (List Nat) := List.rec (motive := fun _ => Nat → Option (List Nat)) (fun _ => some [])
  (fun x _ ih o => Bool.rec (motive := fun _ => Option (List Nat)) none (Option.rec (motive := fun _ => Option (List Nat)) none (fun a => Option.rec (motive := fun _ => Option (List Nat)) none (fun b => some (appL a b)) (ih (o + a.length))) (f x.type)) (and2 (Nat.beq x.offset o) (bnot (x.name == "_")))) l
def repO (n : Nat) (a : List Nat) : List Nat := Nat.rec (motive := fun _ => List Nat) [] (fun _ ih => appL a ih) n
/-- Lists of a length. -/
def chkO (n : Nat) (o : Option (List Nat)) : Option (List Nat) := Option.rec (motive := fun _ => Option (List Nat)) none (fun l => Bool.rec (motive := fun _ => Option (List Nat)) none (some l) (Nat.beq l.length n)) o
/-- Values of the type are plain cells, or aggregates of plain cells each of which counts: their kinds. -/
def eqKs (P : Program) (d : Nat) : TypeId → Option (List Nat) := Nat.rec (motive := fun _ => TypeId → Option (List Nat)) (fun _ => none) (fun _ ih t => chkO (szOf P t) (match und P t with
    | some .bool => some [0]
    | some .string => some [1]
    | some (.int q) => some [kc q + 2]
    | some (.struct fs) => Bool.rec (motive := fun _ => Option (List Nat)) none (fieldKs ih fs.toList 0) (bnot (P.stoodInHeld t))
    | some (.array n e) => Option.rec (motive := fun _ => Option (List Nat)) none (fun a => some (repO n a)) (ih e)
    | _ => none)) d
def eqPlan (P : Program) (t : TypeId) : EqP := match und P t with
  | some .bool => .cell 0
  | some (.pointer _) => .nil 0
  | some (.slice _) => .nil 1
  | some (.func ..) => .nil 2
  | some (.map ..) => .nil 3
  | some (.struct _) | some (.array ..) => Option.rec (motive := fun _ => EqP) .no (fun l => .cells l) (eqKs P 20 t)
  | _ => .no
def keyKind (P : Program) (t : TypeId) : Option Nat := match und P t with
  | some .bool => some 0
  | some .string => some 1
  | some (.int q) => some (kc q + 2)
  | _ => none
/-- Held against nil: values of an interface. -/
def isNilC : Operand → Bool
  | .const .nilIface => true
  | _ => false
def isIface (P : Program) (t : TypeId) : Bool := match und P t with | some (.interface _) => true | _ => false
def cBinN (op : BinOp) (x : Operand) : Sm := match op with
  | .eql => c1 C g P k x fun a k => nilK 4 a fun b => k (.bool b)
  | .neq => c1 C g P k x fun a k => nilK 4 a fun b => k (.bool (bnot b))
  | _ => failS
def cBinV (op : BinOp) (t : TypeId) (x y : Operand) : Sm :=
  let f : BK := match und C.P t with
    | some (.int ik) => ibinOf op (kc ik)
    | some .string => sbin op
    | _ => obin (eqPlan C.P t) op
  let a := rdO C g x; let b := rdO C g y; ⟨fun sk fr hp => a.get sk fr fun a => b.get sk fr fun b => f.f a b fun v => P.f k sk fr hp v⟩
def cBin (op : BinOp) (t : TypeId) (x y : Operand) : Sm := Bool.rec (motive := fun _ => Sm) (cBinV C g P k op t x y) (cBinN C g P k op x) (and2 (isIface C.P t) (isNilC y))
def cUn (op : UnOp) (x : Operand) : Sm := match op with
  | .neg => c1 C g P k x fun a k => a.onInt fun i n => intK i (Nat.mod (Nat.sub (md i) n) (md i)) k
  | .xor => c1 C g P k x fun a k => a.onInt fun i n => intK i (Nat.sub (Nat.sub (md i) 1) n) k
  | .not => c1 C g P k x fun a k => a.onBool fun b => k (.bool (bnot b))
  | _ => failS
def cConv (s d : TypeId) (x : Operand) : Sm := match und C.P s, und C.P d with
  | some (.int _), some (.int kk) => let j := kc kk; let M' := md j; c1 C g P k x fun a k => a.onInt fun i n => intK j (cvt (md i) (hf i) M' n) k
  | some .string, some .string => c1 C g P k x fun a k => a.onStr fun s n => k (.str s n)
  | some .string, some (.slice e) => iff (isU8 C.P e) <| c1h C g P k x fun a hp k => a.onStr fun s n => (unpack C.M n).f s 0 .lf fun r => N.f hp (.row true true 1 n r) fun id hp => k (.ms id 0 n 1) hp
  | some (.slice e), some .string => iff (isU8 C.P e) <| c1h C g P k x fun a hp k => a.onSlice (fun _ _ _ _ => seqK C.M 1 a hp fun t o n _ => (pack C.M n).f t o fun s => k (.str s n) hp) (fun _ _ _ _ => seqK C.M 1 a hp fun t o n _ => (pack C.M n).f t o fun s => k (.str s n) hp) (fun g => must (Nat.beq g 8 || Nat.beq g 6) (k (.str 0 0) hp)) (fun _ _ => .fail)
  | some (.slice _), some (.slice e) => iff (and2 (Nat.beq s d) (isU8 C.P e)) <| c1h C g P k x fun a hp k => a.onSlice (fun b _ n _ => must (Nat.ble 1 n) (hp.own C.M b 0 fun _ _ _ _ => k a hp)) (fun _ _ _ _ => .fail) (fun _ => .fail) (fun _ _ => .fail)
  | _, _ => failS
/-- Operands as a list. -/
structure AK where
  f : Row → Fr → (Row → Res) → Res
def ak (l : List Rd) : AK := List.rec (motive := fun _ => AK) ⟨fun _ _ k => k .lf⟩ (fun x _ ih => ⟨fun sk fr k => x.get sk fr fun v => ih.f sk fr fun r => k (.nd v .lf r)⟩) l
def cFunc (f : FuncId) (a b : Array Operand) : Sm := let q := ak ((a.toList ++ b.toList).map (rdO C g)); let n := a.size; let m := b.size; ⟨fun sk fr hp => q.f sk fr fun l => P.f k sk fr hp (.x 3 l f n m)⟩
def cMakeMapN (t : TypeId) (x : Operand) : Sm := let a := rdO C g x; iff (match und C.P t with | some (.map ..) => true | _ => false) ⟨fun sk fr hp => a.get sk fr fun v => v.onInt fun _ _ => N.f hp (.map 0 .lf) fun id hp => P.f k sk fr hp (.x 4 .lf id 0 0)⟩
def cMakeMap : Sm := ⟨fun sk fr hp => N.f hp (.map 0 .lf) fun id hp => P.f k sk fr hp (.x 4 .lf id 0 0)⟩
def cMakeSlice (t : TypeId) (x y : Operand) : Sm := match slT C.P t with
  | none => failS
  | some e => let z := szOf C.P e; let v := zeroEl C.P e; iff (and2 (Nat.ble 1 z) (and2 (zeroOk C.P e z) (Nat.ble (bytesOf C.P e) 65536))) <| c2h C g P k x y fun a b hp k => bndK b 1073741824 fun m => bndK a m fun n => forceN (Nat.mul n z) fun s => N.f hp (.row true true z s (Tr.full v (depth n))) fun id hp => k (.ms id 0 n z) hp
structure OK where
  f : Row → Fr → (Option AV → Res) → Res
def optK (x : Option Operand) : OK := match x with | none => ⟨fun _ _ k => k none⟩ | some x => let a := rdO C g x; ⟨fun sk fr k => a.get sk fr fun v => k (some v)⟩
def cSlice (t : TypeId) (x : Operand) (lo hi mx : Option Operand) : Sm :=
  let a := rdO C g x; let l := optK C g lo; let h := optK C g hi; let m := optK C g mx
  match und C.P t with
  | some (.array n e) => let z := szOf C.P e; iff (Nat.ble 1 z) ⟨fun sk fr hp => a.get sk fr fun v => l.f sk fr fun l => h.f sk fr fun h => m.f sk fr fun m => v.onPtr (fun b o => hp.use C.M b (Nat.add o (Nat.mul n z)) fun _ _ _ _ _ => sliceK z (.ms b o n z) l h m fun v => P.f k sk fr hp v) (fun t o c y => must (Nat.beq y z) (must (Nat.beq (Nat.mod o z) 0) (must (Nat.ble (Nat.mul n z) c) (sliceK z (.vs t (Nat.div o z) n z) l h m fun v => P.f k sk fr hp v))))⟩
  | some (.slice e) => let z := szOf C.P e; iff (Nat.ble 1 z) ⟨fun sk fr hp => a.get sk fr fun v => l.f sk fr fun l => h.f sk fr fun h => m.f sk fr fun m => sliceK z v l h m fun v => P.f k sk fr hp v⟩
  | some .string => iff (Option.rec (motive := fun _ => Bool) true (fun _ => false) mx) ⟨fun sk fr hp => a.get sk fr fun v => l.f sk fr fun l => h.f sk fr fun h => sliceS v l h fun v => P.f k sk fr hp v⟩
  | _ => failS
def cFieldAddr (t : TypeId) (x : Operand) (f : Nat) : Sm := match und C.P t with
  | some (.struct fs) => let off := fieldOff fs f; let a := rdO C g x; iff (and2 (Nat.ble (Nat.succ f) fs.size) (Nat.ble 1 (szOf C.P (fieldT fs f)))) ⟨fun sk fr hp => a.get sk fr fun a => fieldAddr off a fun v => P.f k sk fr hp v⟩
  | _ => failS
def cField (t : TypeId) (x : Operand) (f : Nat) : Sm := match und C.P t with
  | some (.struct fs) => let off := fieldOff fs f; let z := szOf C.P (fieldT fs f); let ag := isAgg C.P (fieldT fs f); iff (and2 (Nat.ble (Nat.succ f) fs.size) (known C.P (fieldT fs f))) <| c1 C g P k x fun a k => partK ag z off a k
  | _ => failS
def cIndexAddr (t : TypeId) (x i : Operand) : Sm := match und C.P t with
  | some (.array n e) => let z := szOf C.P e; iff (Nat.ble 1 z) <| c2 C g P k x i fun a j k => indexArr z n a j k
  | some (.slice e) => let z := szOf C.P e; iff (Nat.ble 1 z) <| c2 C g P k x i fun a j k => indexAddr z a j k
  | _ => failS
def cIndex (t : TypeId) (x i : Operand) : Sm := match und C.P t with
  | some (.array n e) => let z := szOf C.P e; let ag := isAgg C.P e; iff (known C.P e) <| c2 C g P k x i fun a j k => idxK j n fun j => partK ag z (Nat.mul j z) a k
  | some .string => c2 C g P k x i fun a j k => a.onStr fun s n => idxK j n fun j => intK 4 (Nat.mod (Nat.div s (Nat.pow 256 j)) 256) k
  | _ => failS
def cLookup (t : TypeId) (x i : Operand) (ok : Bool) : Sm := match und C.P t with
  | some (.map kt e) => match keyKind C.P kt with
   | none => failS
   | some c => let zv := zeroAV C.P e; c2h C g P k x i fun m key hp k => m.onX fun q _ b _ _ => must (Nat.beq q 4) (hp.get C.M b fun B => B.onMap fun n t =>
      (findK C.M c n).f t 0 key (fun j => C.M.rg.f t (Nat.succ j) fun v => when ok (k (.tup (.nd v .lf (.nd (.bool true) .lf .lf)) 2) hp) (k v hp)) (must (isKnown zv) (when ok (k (.tup (.nd zv .lf (.nd (.bool false) .lf .lf)) 2) hp) (k zv hp))))
  | _ => failS
def notProt (b : Nat) (hp : Hp) (k : Res) : Res := Hp.rec (motive := fun _ => Res) (fun _ _ pr _ => notIn b pr k) hp
def cMapUpdate (t : TypeId) (m key x : Operand) : Sm := let a := rdO C g m; let b := rdO C g key; let y := rdO C g x
  match und C.P t with
  | some (.map kt _) => match keyKind C.P kt with
   | none => failS
   | some c => ⟨fun sk fr hp => a.get sk fr fun m => b.get sk fr fun key => y.get sk fr fun v => m.onX fun q _ b _ _ => must (Nat.beq q 4) (notProt b hp (hp.get C.M b fun B => B.onMap fun n t =>
      (findK C.M c n).f t 0 key (fun j => C.M.rs.f t (Nat.succ j) v fun t => hp.put C.M b (.map n t) fun hp => P.f k sk fr hp undefT)
        (C.M.rs.f t (Nat.mul 2 n) key fun t => C.M.rs.f t (Nat.succ (Nat.mul 2 n)) v fun t => hp.put C.M b (.map (Nat.succ n) t) fun hp => P.f k sk fr hp undefT)))⟩
  | _ => failS
def cExtract (x : Operand) (i : Nat) : Sm := let a := rdO C g x; let e := tget i; ⟨fun sk fr hp => a.get sk fr fun v => v.onTup fun t _ => e.get t fr fun v => P.f k sk fr hp v⟩
def fnOf (f : Nat) : FnS := List.rec (motive := fun _ => FnS) noFn (fun a _ ih => Bool.rec (motive := fun _ => FnS) ih a.2 (Nat.beq a.1 f)) C.fn
def shOf (f : Nat) : Bool := List.rec (motive := fun _ => Bool) false (fun a _ ih => Bool.rec (motive := fun _ => Bool) ih true (Nat.beq a f)) C.sh
def ylOf (f i : Nat) : YldS := List.rec (motive := fun _ => YldS) noYld (fun a _ ih => Bool.rec (motive := fun _ => YldS) ih (Bool.rec (motive := fun _ => YldS) ih a.2.2 (Nat.beq a.2.1 i)) (Nat.beq a.1 f)) C.yl
/-- One round of a loop over a function. -/
def yldEnd (M : Mem) (b : Nat) (pr : List Nat) (rb st : Nat) (v : Bool) (h : Hp) (k : AV → Hp → Res) : Res :=
  h.get M b fun B => B.onLoop fun s f i fr => must (Nat.beq s 1) (h.put M b (.loop st f i fr) fun h => Hp.rec (motive := fun _ => Res) (fun t nx _ _ => k (.bool v) ⟨t, nx, pr, rb⟩) h)
/-- Behind the assignments: the body. -/
def yldGo (M : Mem) (b : Nat) (pr : List Nat) (rb : Nat) (Y : YldS) (fr1 : Fr) (h1 : Hp) (k : AV → Hp → Res) : Res :=
  h1.get M b fun B => B.onLoop fun st f i fr => must (Nat.beq st 0) (h1.put M b (.loop 1 f i fr) fun h2 =>
    Res.rec (motive := fun _ => Res) (fun _ h3 => yldEnd M b pr rb 0 true h3 k) (fun n _ h3 => yldEnd M b pr rb (Nat.add n 3) false h3 k) (fun _ h3 => yldEnd M b pr rb 2 false h3 k) (fun _ _ => .fail) .fail (Y.g fr1 h2))
def yldK (b : Nat) (l : Row) (hp : Hp) (k : AV → Hp → Res) : Res :=
  notProt b hp (hp.get C.M b fun B => B.onLoop fun st f i fr => must (Nat.beq st 0)
    (Res.rec (motive := fun _ => Res) (fun fr1 h1 => Hp.rec (motive := fun _ => Res) (fun _ _ pr rb => yldGo C.M b pr rb (ylOf C f i) fr1 h1 k) hp) (fun _ _ _ => .fail) (fun _ _ => .fail) (fun _ _ => .fail) .fail ((ylOf C f i).f fr l hp)))
/-- Lists put together. -/
def app (a b : Row) (k : Row → Res) : Res := Tr.rec (motive := fun _ => (Row → Res) → Res) (fun k => k b) (fun v _ _ _ ih k => ih fun r => k (.nd v .lf r)) a k
/-- The first n of a list, b, the rest. -/
def splice (n : Nat) (a b : Row) (k : Row → Res) : Res := Nat.rec (motive := fun _ => Row → (Row → Res) → Res) (fun a k => app b a k) (fun _ ih a k => Tr.rec (motive := fun _ => Res) .fail (fun v _ r _ _ => ih r fun r => k (.nd v .lf r)) a) n a k
def cCall (f : Operand) (as : Array Operand) : Sm := let q := ak (as.toList.map (rdO C g)); match f with
  | .func f => let F := fnOf C f; let sh := shOf C f; ⟨fun sk fr hp => q.f sk fr fun l => callK C.M sh F l hp fun v hp => P.f k sk fr hp v⟩
  | f => let a := rdO C g f; ⟨fun sk fr hp => a.get sk fr fun fv => fv.onX fun i u f n _ => q.f sk fr fun l => when (Nat.beq i 3) (splice n u l fun l => callK C.M (shOf C f) (fnOf C f) l hp fun v hp => P.f k sk fr hp v)
      (must (Nat.beq i 5) (yldK C f l hp fun v hp => P.f k sk fr hp v))⟩
def cLen (q : Nat) (x : Operand) : Sm := let a := rdO C g x; ⟨fun sk fr hp => a.get sk fr fun a => lenK C.M q a hp fun n => must (Nat.ble n 9223372036854775807) (P.f k sk fr hp (.int 3 n))⟩
def isSeq (t : TypeId) : Bool := match und C.P t with | some (.slice _) | some .string => true | _ => false
def cBuiltin (b : Builtin) (ts : List TypeId) (as : List Operand) : Sm :=
  match b, ts, as with
  | .len, t :: _, [x] => (match und C.P t with
    | some (.array n _) => iff (Nat.ble n 9223372036854775807) ⟨fun sk fr hp => P.f k sk fr hp (.int 3 n)⟩
    | some .string => cLen C g P k 0 x
    | some (.slice _) => cLen C g P k 1 x
    | some (.map ..) => cLen C g P k 2 x
    | _ => failS)
  | .append, [t, u], [x, y] => (match slT C.P t with
    | some e => let z := szOf C.P e; iff (and2 (Nat.ble (bytesOf C.P e) 65536) (and2 (Nat.ble 1 z) (zeroOk C.P e z))) <| (match und C.P u with
      | some (.int _) => let v := zeroEl C.P e; c2h C g P k x y fun a b hp k => a.onX fun q _ _ _ _ => must (Nat.beq q 8) (bndK b 1073741824 fun n => must (Nat.ble 1 n) (forceN (Nat.mul n z) fun s => N.f hp (.row true true z s (Tr.full v (depth n))) fun id hp => k (.ms id 0 n z) hp))
      | _ => iff (isSeq C u) <| c2h C g P k x y fun a b hp k => appendK C.M N z a b hp k)
    | none => failS)
  | .cap, t :: _, [x] => (match slT C.P t with
    | some _ => c1 C g P k x fun a k => a.onX fun q _ _ _ _ => must (Nat.beq q 8 || Nat.beq q 6) (k (.int 3 0))
    | none => failS)
  | .copy, t :: _, [x, y] => (match slT C.P t with
    | some e => let z := szOf C.P e; iff (Nat.ble 1 z) <| c2h C g P k x y fun a b hp k => copyK C.M z a b hp fun n hp => must (Nat.ble n 9223372036854775807) (k (.int 3 n) hp)
    | none => failS)
  | .clear, t :: _, [x] => (match slT C.P t with
    | some e => let z := szOf C.P e; let zr := zeroEl C.P e; iff (and2 (Nat.ble 1 z) (zeroOk C.P e z)) <| c1h C g P k x fun a hp k => clearK C.M z zr a hp fun hp => k undefT hp
    | none => failS)
  | .min, _, [x, y] => c2 C g P k x y fun a b k => a.onInt fun i m => b.onInt fun j n => must (Nat.beq i j) (when (Nat.ble (Nat.mod (Nat.add m (hf i)) (md i)) (Nat.mod (Nat.add n (hf i)) (md i))) (k (.int i m)) (k (.int i n)))
  | .max, _, [x, y] => c2 C g P k x y fun a b k => a.onInt fun i m => b.onInt fun j n => must (Nat.beq i j) (when (Nat.ble (Nat.mod (Nat.add m (hf i)) (md i)) (Nat.mod (Nat.add n (hf i)) (md i))) (k (.int i n)) (k (.int i m)))
  | _, _, _ => failS
end ops

def denOp (C : Cx) (g : G) (P : Pt) (N : NK) (k : Sm) (op : Op) : Sm := match op with
  | .move x | .assign x => cMove C g P k x
  | .pick c a b => cPick C g P k c a b
  | .alloc t => cBox C P N k t ⟨fun _ _ k => k (zeroAV C.P t)⟩
  | .box t x => cBox C P N k t (rdO C g x)
  | .build t ps => cBuild C g P k t ps
  | .buildSlice t n ps => cBuildSlice C g P N k t n ps
  | .load t a => cLoad C g P k t a
  | .store t a x => cStore C g P k t a x
  | .nilCheck x => cNilCheck C g P k x
  | .binOp op t x y _ => cBin C g P k op t x y
  | .unOp op _ x => cUn C g P k op x
  | .convert s d x => cConv C g P N k s d x
  | .makeFunc (.func f) a b => cFunc C g P k f a b
  | .makeMap _ none => cMakeMap P N k
  | .makeMap t (some x) => cMakeMapN C g P N k t x
  | .makeSlice t a b => cMakeSlice C g P N k t a b
  | .slice t x lo hi mx => cSlice C g P k t x lo hi mx
  | .fieldAddr t x f => cFieldAddr C g P k t x f
  | .field t x f => cField C g P k t x f
  | .indexAddr t x i => cIndexAddr C g P k t x i
  | .index t x i => cIndex C g P k t x i
  | .lookup t x i ok => cLookup C g P k t x i ok
  | .mapUpdate t m key x => cMapUpdate C g P k t m key x
  | .extract x i => cExtract C g P k x i
  | .call c => (match c.callee with
    | .builtin b => cBuiltin C g P N k b c.argTypes.toList c.args.toList
    | .value f => cCall C g P k f c.args
    | .invoke .. => failS)
  | _ => failS

/-- Under a guard: the slot that says so. -/
def guarded (C : Cx) (g : G) (P : Pt) (k s : Sm) (t : Option Nat) (want : Bool) : Sm := match t with
  | none => failS
  | some t => let a := mkRd g.d (look C g t)
    ⟨fun sk fr hp => a.get sk fr fun v => v.on (fun _ _ => .fail) (fun b => when (bxor b want) (P.f k sk fr hp undefT) (s.run sk fr hp)) (fun _ _ => .fail) (fun _ _ => .fail) (fun _ _ _ _ => .fail) (fun _ _ _ _ => .fail) (fun _ _ => .fail) (fun _ _ => P.f k sk fr hp undefT) (fun _ _ _ _ _ => .fail)⟩
def writes (t : Nat) (l : List Oper) : Bool := List.rec (motive := fun _ => Bool) false (fun o _ ih => Option.rec (motive := fun _ => Bool) ih (fun d => Bool.rec (motive := fun _ => Bool) ih true (Nat.beq d t)) o.dst) l
/-- A copy that needs no code: where it stands. -/
def alias (C : Cx) (g : G) (o : Oper) (rest : List Oper) : Option (Nat × Src) :=
  match o.guard, o.dst, o.op with
  | none, some d, .move x | none, some d, .assign x => if isVar C d then none else
    (match src C g x with
     | .c v => some (d, .c v)
     | .s l => some (d, .s l)
     | .f i => (match x with | .tmp t => if writes t rest then none else some (d, .f i) | _ => none)
     | .no => none)
  | _, _, _ => none
/-- One operation; the rest. -/
def denG (C : Cx) (ops : Array Oper) (g : G) (N : NK) (o : Oper) (rest : List Oper) (k : G → Sm) : Sm :=
  match alias C g o rest with
  | some a => iff (Nat.ble (Nat.succ a.1) C.nt) (k ⟨g.d, a :: dropKey a.1 g.m⟩)
  | none => (match dst C g o.dst with
    | ⟨P, g'⟩ => (match o.guard with
      | none => denOp C g P N (k g') o.op
      | some (j, want) => guarded C g P (k g') (denOp C g P N (k g') o.op) ((ops[j]?).bind (·.dst)) want))
def denOps (C : Cx) (ops : Array Oper) (l : List Oper) (g : G) (k : G → Sm) : Sm :=
  List.rec (motive := fun _ => G → Sm) k (fun o r ih g => denG C ops g (newS C.M) o r ih) l g
end
end Go.Proofs.YtlffjnddiiojnaaGreatDoor.Ev

/- The evaluator: regions that draw their order; code; functions. -/
namespace Go.Proofs.YtlffjnddiiojnaaGreatDoor.Ev
noncomputable section

def getL {α : Type} (d : α) (l : List α) : Nat → α := List.rec (motive := fun _ => Nat → α) (fun _ => d) (fun a _ ih i => Nat.rec (motive := fun _ => α) a (fun j _ => ih j) i) l
def bit (m i : Nat) : Bool := Nat.beq (Nat.mod (Nat.div m (Nat.pow 2 i)) 2) 1
def band (a b : Bool) : Bool := Bool.rec (motive := fun _ => Bool) false b a
def allL {α : Type} (f : α → Bool) (l : List α) : Bool := List.rec (motive := fun _ => Bool) true (fun a _ ih => band (f a) ih) l
def bindsAny (e : Edge) : Bool := Region.binds .any e
/-- The operations that come before one in every order, as bits; l: those of the operations ahead, the last one first. -/
def maskOf (l : List Nat) (n : Nat) (es : List Edge) : Nat := List.rec (motive := fun _ => Nat) 0 (fun e _ ih => Bool.rec (motive := fun _ => Nat) ih (Nat.lor ih (Nat.lor (Nat.pow 2 e.on) (getL 0 l (Nat.sub (Nat.sub n 1) e.on)))) (bindsAny e)) es
def masksR (ops : List Oper) : List Nat → Nat → List Nat := List.rec (motive := fun _ => List Nat → Nat → List Nat) (fun acc _ => acc) (fun o _ ih acc n => ih (maskOf acc n o.after.toList :: acc) (Nat.succ n)) ops
/-- All binding edges lead back. -/
def backOk (ops : List Oper) : Nat → Bool := List.rec (motive := fun _ => Nat → Bool) (fun _ => true) (fun o _ ih n => band (allL (fun e => Bool.rec (motive := fun _ => Bool) true (Nat.ble (Nat.succ e.on) n) (bindsAny e)) o.after.toList) (ih (Nat.succ n))) ops

/-- What an operation does to memory: 0 nothing · 1 it reads · 2 it makes memory · 3 it writes · 6 other. -/
def cls (P : Program) : Op → Nat
  | .move .. | .pick .. | .assign .. | .fieldAddr .. | .field .. | .indexAddr .. | .index .. | .unOp .. | .binOp .. | .extract .. | .makeFunc .. | .nilCheck .. | .build .. => 0
  | .slice t .. => match und P t with | some (.array ..) => 1 | _ => 0
  | .load .. | .lookup .. => 1
  | .alloc .. | .box .. | .buildSlice .. | .makeSlice .. | .makeMap .. => 2
  | .convert s d _ => match und P s, und P d with
    | some (.slice _), some .string => 1
    | some .string, some (.slice _) => 2
    | some (.slice _), some (.slice _) => 6
    | _, _ => 0
  | .store .. | .mapUpdate .. => 3
  | .call c => match c.callee with
    | .builtin .len => (match und P (c.argTypes.getD 0 0) with | some (.map ..) => 1 | _ => 0)
    | .builtin .min | .builtin .max => 0
    | .builtin .append | .builtin .copy | .builtin .clear => 3
    | .builtin _ => 6
    | .invoke .. => 6
    | .value _ => 3
  | _ => 6
/-- The operand by which memory is read. -/
def spot : Op → Option Operand
  | .load _ a => some a
  | .lookup _ a _ _ => some a
  | .convert _ _ x => some x
  | .slice _ x _ _ _ => some x
  | .call c => c.args[0]?
  | _ => none
def tmpsOf (l : List Operand) : List Nat := List.rec (motive := fun _ => List Nat) [] (fun x _ ih => match x with | .tmp t => t :: ih | _ => ih) l
/-- The slots that an operation reads. -/
def readsOf (ops : Array Oper) (o : Oper) : List Nat := match o.guard with
  | none => tmpsOf o.op.operands.toList
  | some (j, _) => match (ops[j]?).bind (·.dst) with | some t => t :: tmpsOf o.op.operands.toList | none => tmpsOf o.op.operands.toList
/-- One operation of a region that draws its order, as it is seen. -/
structure Dr where
  i : Nat
  o : Oper
  c : Nat
  m : Nat
  r : List Nat
def drs (P : Program) (ops : Array Oper) (l : List Oper) (ms : List Nat) : Nat → List Dr := List.rec (motive := fun _ => Nat → List Dr) (fun _ => []) (fun o _ ih i => ⟨i, o, cls P o.op, getL 0 ms i, readsOf ops o⟩ :: ih (Nat.succ i)) l
def ready (D : Nat) (x : Dr) : Bool := Nat.beq (Nat.land x.m D) x.m
def without (i : Nat) (l : List Dr) : List Dr := List.rec (motive := fun _ => List Dr) [] (fun x r ih => Bool.rec (motive := fun _ => List Dr) (x :: ih) r (Nat.beq x.i i)) l
def pickF (D : Nat) (l : List Dr) (no : Option Dr) : Option Dr := List.rec (motive := fun _ => Option Dr) no (fun x _ ih => Bool.rec (motive := fun _ => Option Dr) ih (some x) (band (ready D x) (Nat.ble x.c 2))) l
def pickA (D : Nat) (l : List Dr) : Option Dr := List.rec (motive := fun _ => Option Dr) none (fun x _ ih => Bool.rec (motive := fun _ => Option Dr) ih (some x) (ready D x)) l
/-- The order in which the evaluator goes: what writes comes as late as can be. -/
def order (n : Nat) : Nat → List Dr → List Dr := Nat.rec (motive := fun _ => Nat → List Dr → List Dr) (fun _ _ => []) (fun _ ih D l => Option.rec (motive := fun _ => List Dr) [] (fun x => x :: ih (Nat.lor D (Nat.pow 2 x.i)) (without x.i l)) (pickF D l (pickA D l))) n
/-- Is the slot that one writes seen by the others rightly? -/
def slotOk (x y : Dr) : Bool := Option.rec (motive := fun _ => Bool) true (fun d => band (Option.rec (motive := fun _ => Bool) true (fun e => bnot (Nat.beq d e)) y.o.dst)
  (allL (fun t => Bool.rec (motive := fun _ => Bool) true (Bool.rec (motive := fun _ => Bool) (bit x.m y.i) true (bit y.m x.i)) (Nat.beq t d)) y.r)) x.o.dst
/-- May x come behind y, which stands behind x here? -/
def pairOk (x y : Dr) : Bool := Bool.rec (motive := fun _ => Bool) (band (bnot (Nat.beq x.c 6)) (band (bnot (Nat.beq y.c 6)) (Bool.rec (motive := fun _ => Bool) (Nat.beq y.c 0) true (Nat.ble x.c 2)))) true (bit y.m x.i)
/-- All pairs of a list. -/
def pairs (f : Dr → Dr → Bool) (l : List Dr) : Bool := List.rec (motive := fun _ => Bool) true (fun x r ih => band (allL (fun y => f x y) r) ih) l
def drawOk (l : List Dr) (n : Nat) : Bool := band (Nat.beq (List.rec (motive := fun _ => Nat) 0 (fun _ _ ih => Nat.succ ih) l) n) (pairs (fun x y => band (slotOk x y) (band (slotOk y x) (pairOk x y))) l)

/-- The blocks that are read beside it. -/
def protK (sk : Row) (fr : Fr) (l : List Rd) : List Nat → (List Nat → Res) → Res := List.rec (motive := fun _ => List Nat → (List Nat → Res) → Res) (fun acc k => k acc) (fun x _ ih acc k => x.get sk fr fun v => v.on (fun _ _ => .fail) (fun _ => .fail) (fun _ _ => ih acc k) (fun b _ => ih (b :: acc) k) (fun b _ _ _ => ih (b :: acc) k) (fun _ _ _ _ => ih acc k) (fun _ _ => .fail) (fun _ _ => .fail)
  (fun g _ b _ _ => when (Nat.beq g 4) (ih (b :: acc) k) (must (Nat.beq g 1 || Nat.ble 6 g) (ih acc k)))) l
/-- Blocks put away. -/
def hideK (M : Mem) (l : List Nat) : Hp → List (Nat × Blk) → (List (Nat × Blk) → Hp → Res) → Res := List.rec (motive := fun _ => Hp → List (Nat × Blk) → (List (Nat × Blk) → Hp → Res) → Res) (fun hp acc k => k acc hp)
  (fun i _ ih hp acc k => forceN (Nat.add hp.rb i) fun b => hp.get M b fun B => hp.put M b .dead fun hp => ih hp ((b, B) :: acc) k) l
def backK (M : Mem) (l : List (Nat × Blk)) : Hp → (Hp → Res) → Res := List.rec (motive := fun _ => Hp → (Hp → Res) → Res) (fun hp k => k hp) (fun p _ ih hp k => hp.put M p.1 p.2 fun hp => ih hp k) l
/-- Blocks that were not written, but for the mark. -/
def keepK (M : Mem) (h : Hp) (l : List Nat) : Hp → (Hp → Res) → Res := List.rec (motive := fun _ => Hp → (Hp → Res) → Res) (fun hp k => k hp) (fun b _ ih hp k => h.get M b fun B => hp.get M b fun B' =>
  Blk.rec (motive := fun _ => Res) .fail (fun _ fl z s t => B'.onRow fun rw _ _ _ _ => hp.put M b (.row rw fl z s t) fun hp => ih hp k) (fun n t => B'.onMap fun _ _ => hp.put M b (.map n t) fun hp => ih hp k) (fun _ _ _ _ => .fail) (fun _ => .fail) B) l
def Hp.prot (l : List Nat) (h : Hp) : Hp := ⟨h.t, h.nx, l, h.rb⟩
def appN (a b : List Nat) : List Nat := List.rec (motive := fun _ => List Nat) b (fun x _ ih => x :: ih) a
def retS : Sm := ⟨fun _ _ _ => .fail⟩
def ptRet : Pt := ⟨fun _ _ _ hp v => .val v hp⟩
def wrapS (M : Mem) (A : List Nat) (L : List Rd) (s : Sm) (P : Pt) (k : Sm) : Sm :=
  ⟨fun sk fr hp => protK sk fr L [] fun pl => hideK M A hp [] fun sv h1 =>
    Res.rec (motive := fun _ => Res) (fun _ _ => .fail) (fun _ _ _ => .fail) (fun _ _ => .fail) (fun v h2 => backK M sv h2 fun h3 => keepK M hp pl h3 fun h4 => Hp.rec (motive := fun _ => Res) (fun t nx _ _ => Hp.rec (motive := fun _ => Res) (fun _ nx0 pr rb => must (Nat.ble nx0 nx) (P.f k sk fr ⟨t, nx, pr, rb⟩ v)) hp) h4) .fail (s.run sk fr (h1.prot (appN pl hp.pr)))⟩
/-- Of those that were run: the loose ones that make memory, and that read it. -/
def looseA (x : Dr) (l : List Dr) : List Nat := List.rec (motive := fun _ => List Nat) [] (fun y _ ih => Bool.rec (motive := fun _ => List Nat) ih (y.i :: ih) (band (Nat.beq y.c 2) (bnot (bit x.m y.i)))) l
def looseL (x : Dr) (l : List Dr) : List Dr := List.rec (motive := fun _ => List Dr) [] (fun y _ ih => Bool.rec (motive := fun _ => List Dr) ih (y :: ih) (band (Nat.beq y.c 1) (bnot (bit x.m y.i)))) l
def spotRd (C : Cx) (g : G) (x : Dr) : Rd := Option.rec (motive := fun _ => Rd) ⟨fun _ _ _ => .fail⟩ (fun a => rdO C g a) (spot x.o.op)
/-- Nobody writes the slot by which it reads but those ahead of it. -/
def spotOk (l : List Dr) (y : Dr) : Bool := Option.rec (motive := fun _ => Bool) false (fun a => match a with | .tmp t => allL (fun z => Option.rec (motive := fun _ => Bool) true (fun d => Bool.rec (motive := fun _ => Bool) true (bit y.m z.i) (Nat.beq d t)) z.o.dst) l | _ => true) (spot y.o.op)
def opers (l : List Dr) : List Oper := List.rec (motive := fun _ => List Oper) [] (fun x _ ih => x.o :: ih) l
/-- An operation where order is drawn. -/
def denW (C : Cx) (g : G) (all : List Dr) (x : Dr) (done : List Dr) (P : Pt) (k : Sm) : Sm :=
  Bool.rec (motive := fun _ => Sm)
    (let A := looseA x done; let L := looseL x done
     iff (allL (spotOk all) L) (wrapS C.M A (L.map (spotRd C g)) (denOp C g ptRet (newD C.M x.i) retS x.o.op) P k)) (denOp C g P (newD C.M x.i) k x.o.op) (Nat.ble x.c 2)
def denD (C : Cx) (ops : Array Oper) (all : List Dr) (g : G) (x : Dr) (rest done : List Dr) (k : G → Sm) : Sm :=
  match alias C g x.o (opers rest) with
  | some a => iff (Nat.ble (Nat.succ a.1) C.nt) (k ⟨g.d, a :: dropKey a.1 g.m⟩)
  | none => (match dst C g x.o.dst with
    | ⟨P, g'⟩ => (match x.o.guard with
      | none => denW C g all x done P (k g')
      | some (j, want) => guarded C g P (k g') (denW C g all x done P (k g')) ((ops[j]?).bind (·.dst)) want))
def denDs (C : Cx) (ops : Array Oper) (all l : List Dr) (g : G) (k : G → Sm) : List Dr → Sm :=
  List.rec (motive := fun _ => G → List Dr → Sm) (fun g _ => k g) (fun x r ih g done => denD C ops all g x r done (fun g => ih g (x :: done))) l g
def revN (l : List Nat) : List Nat → List Nat := List.rec (motive := fun _ => List Nat → List Nat) (fun acc => acc) (fun a _ ih acc => ih (a :: acc)) l
def denDraw (C : Cx) (ops : Array Oper) (g : G) (k : G → Sm) : Sm :=
  let n := ops.size
  let l := order n 0 (drs C.P ops ops.toList (revN (masksR ops.toList [] 0) []) 0)
  Bool.rec (motive := fun _ => Sm) failS (let s := denDs C ops l l g k []
    ⟨fun sk fr hp => Hp.rec (motive := fun _ => Res) (fun t nx pr _ => forceN nx fun nx => forceN (Nat.add nx n) fun m => s.run sk fr ⟨t, m, pr, nx⟩) hp⟩) (band (backOk ops.toList 0) (drawOk l n))

def okS : Sm := ⟨fun _ fr hp => .ok fr hp⟩
def exS (id : Nat) : Sm := ⟨fun _ fr hp => .exit id fr hp⟩
def rtS : Sm := ⟨fun _ fr hp => .ret fr hp⟩
def dropS (k : Sm) : Sm := ⟨fun _ fr hp => k.run .lf fr hp⟩
abbrev Exs := List (Nat × Sm)
def exOf (id : Nat) (l : Exs) : Sm := List.rec (motive := fun _ => Sm) failS (fun a _ ih => Bool.rec (motive := fun _ => Sm) ih a.2 (Nat.beq a.1 id)) l
/-- Those that are handed on as numbers. -/
def exMap (l : Exs) : Exs := List.rec (motive := fun _ => Exs) [] (fun a _ ih => (a.1, exS a.1) :: ih) l
/-- Go on where a number says. -/
def goOn (l : Exs) (n : Nat) (fr : Fr) (hp : Hp) : Res := List.rec (motive := fun _ => Res) .fail (fun a _ ih => Bool.rec (motive := fun _ => Res) ih (a.2.run .lf fr hp) (Nat.beq a.1 n)) l
def tick (s : Sm) (ih : Fr → Hp → Res) (fr : Fr) (hp : Hp) : Res := Res.rec (motive := fun _ => Res) (fun fr hp => ih fr hp) (fun n fr hp => .exit n fr hp) (fun fr hp => .ret fr hp) (fun _ _ => .fail) .fail (s.run .lf fr hp)
def loopRun (s : Sm) (n : Nat) : Fr → Hp → Res := Nat.rec (motive := fun _ => Fr → Hp → Res) (fun _ _ => .fail) (fun _ ih fr hp => tick s ih fr hp) n
/-- Behind what was run by itself. -/
def endRun (r : Res) (ok : Fr → Hp → Res) (ex : Exs) (rt : Sm) : Res := Res.rec (motive := fun _ => Res) ok (fun n fr hp => goOn ex n fr hp) (fun fr hp => rt.run .lf fr hp) (fun _ _ => .fail) .fail r
/-- A scope: what is run is the part behind a label; what leaves to a label inside goes on there. -/
structure Lb where
  f : Nat → Sm
def scopeTick (ls : List Nat) (segs : Lb) (ih : Sm → Fr → Hp → Res) (s : Sm) (fr : Fr) (hp : Hp) : Res := Res.rec (motive := fun _ => Res) (fun fr hp => .ok fr hp)
  (fun n fr hp => List.rec (motive := fun _ => Res) (.exit n fr hp) (fun l _ r => Bool.rec (motive := fun _ => Res) r (ih (segs.f l) fr hp) (Nat.beq (Nat.succ (Nat.mul 2 l)) n)) ls) (fun fr hp => .ret fr hp) (fun _ _ => .fail) .fail (s.run .lf fr hp)
def scopeRun (ls : List Nat) (segs : Lb) (n : Nat) : Sm → Fr → Hp → Res := Nat.rec (motive := fun _ => Sm → Fr → Hp → Res) (fun _ _ _ => .fail) (fun _ ih s fr hp => scopeTick ls segs ih s fr hp) n

/-- Code: run from its beginning; from behind a label of its spine; the labels of its spine. -/
structure DC where
  run : G → (G → Sm) → Exs → Sm → Sm
  lab : Nat → Option (G → (G → Sm) → Exs → Sm → Sm)
  ls : List Nat
def noLab : Nat → Option (G → (G → Sm) → Exs → Sm → Sm) := fun _ => none
def addL (ls : List Nat) (ex : Exs) : Exs := List.rec (motive := fun _ => Exs) ex (fun l _ ih => (Nat.succ (Nat.mul 2 l), exS (Nat.succ (Nat.mul 2 l))) :: ih) ls
def rangeS (C : Cx) (i : Nat) (f : Rd) (ok : Fr → Hp → Res) (ex : Exs) (rt : Sm) : Sm :=
  ⟨fun sk fr hp => f.get sk fr fun fv => fv.onX fun g u a n _ => must (Nat.beq g 3) ((newS C.M).f hp (.loop 0 C.self i fr) fun b hp =>
    notProt b hp (splice n u (.nd (.x 5 .lf b 0 0) .lf .lf) fun l => shareK (fnOf C a) l hp fun _ hp => hp.get C.M b fun B => B.onLoop fun st _ _ _ => hp.put C.M b .dead fun hp =>
      Nat.rec (motive := fun _ => Res) (ok fr hp) (fun s _ => Nat.rec (motive := fun _ => Res) .fail (fun s _ => Nat.rec (motive := fun _ => Res) (rt.run .lf fr hp) (fun s _ => goOn ex s fr hp) s) s) st))⟩
def den (C : Cx) (c : Code) : DC := Code.rec (motive := fun _ => DC)
  ⟨fun g k _ _ => k g, noLab, []⟩
  (fun _ ops d => ⟨fun g k _ _ => Bool.rec (motive := fun _ => Sm) (denOps C ops ops.toList g k) (denDraw C ops g k) d, noLab, []⟩)
  (fun _ _ a b => ⟨fun g k ex rt => a.run g (fun g => b.run g k ex rt) ex rt, fun l => Option.rec (motive := fun _ => Option (G → (G → Sm) → Exs → Sm → Sm)) (b.lab l) (fun r => some fun g k ex rt => r g (fun g => b.run g k ex rt) ex rt) (a.lab l), appL a.ls b.ls⟩)
  (fun c _ _ a b => ⟨fun g k ex rt => let r := rdO C g c; let j := dropS (k .e); let A := a.run g (fun _ => j) ex rt; let B := b.run g (fun _ => j) ex rt; ⟨fun sk fr hp => r.get sk fr fun v => v.onBool fun t => when t (A.run sk fr hp) (B.run sk fr hp)⟩, noLab, []⟩)
  (fun id _ b => ⟨fun g k ex rt => let j := dropS (k .e); b.run g (fun _ => j) ((Nat.mul 2 id, j) :: ex) rt, noLab, []⟩)
  (fun _ b => ⟨fun _ _ ex rt => let s := b.run .e (fun _ => okS) (exMap ex) rtS; ⟨fun _ fr hp => endRun (loopRun s 1000000 fr hp) (fun _ _ => .fail) ex rt⟩, noLab, []⟩)
  (fun f ps _ _ _ _ => ⟨fun g k ex rt => let j := k .e; rangeS C (ps.getD 0 0) (rdO C g f) (fun fr hp => j.run .lf fr hp) ex rt, noLab, []⟩)
  (fun id => ⟨fun _ _ ex _ => dropS (exOf (Nat.mul 2 id) ex), noLab, []⟩)
  (fun _ b => ⟨fun _ k ex rt => let j := k .e; let ex' := addL b.ls (exMap ex); let s := b.run .e (fun _ => okS) ex' rtS
      let segs : Lb := ⟨fun l => Option.rec (motive := fun _ => Sm) failS (fun r => r .e (fun _ => okS) ex' rtS) (b.lab l)⟩
      ⟨fun _ fr hp => endRun (scopeRun b.ls segs 1000000 s fr hp) (fun fr hp => j.run .lf fr hp) ex rt⟩, noLab, []⟩)
  (fun l => ⟨fun g k _ _ => k g, fun m => Bool.rec (motive := fun _ => Option (G → (G → Sm) → Exs → Sm → Sm)) none (some fun g k _ _ => k g) (Nat.beq l m), [l]⟩)
  (fun l => ⟨fun _ _ ex _ => dropS (exOf (Nat.succ (Nat.mul 2 l)) ex), noLab, []⟩)
  ⟨fun _ _ _ rt => dropS rt, noLab, []⟩
  (fun _ => ⟨fun _ _ _ _ => failS, noLab, []⟩) c

/-- A function's results, as a list. -/
def resK (C : Cx) (l : List ResultVar) (fr : Fr) (hp : Hp) : (Row → Res) → Res := List.rec (motive := fun _ => (Row → Res) → Res) (fun k => k .lf)
  (fun x _ ih k => match x with
    | .tmp t => (mkRd 0 (look C .e t)).get .lf fr fun v => ih fun r => k (.nd v .lf r)
    | .cell t ty => (mkRd 0 (look C .e t)).get .lf fr fun p => must (known C.P ty) (loadK C.M (isAgg C.P ty) (szOf C.P ty) p hp fun v => ih fun r => k (.nd v .lf r))) l
def endF (C : Cx) (l : List ResultVar) (fr : Fr) (hp : Hp) : Res := resK C l fr hp fun r => match l with
  | [_] => Tr.rec (motive := fun _ => Res) .fail (fun v _ _ _ _ => .val v hp) r
  | _ => .val (.tup r l.length) hp
/-- Arguments into a frame, from a slot on. -/
structure FlK where
  f : Fr → Row → (Fr → Res) → Res
def fillK (i : Nat) (l : Row) : Fr → (Fr → Res) → Res := Tr.rec (motive := fun _ => Nat → Fr → (Fr → Res) → Res) (fun _ fr k => k fr) (fun v _ _ _ ih i fr k => (fset i).f fr v fun fr => ih (Nat.succ i) fr k) l i
/-- The first variables are the first slots. -/
def headVars (n : Nat) (l : List Nat) : Bool := Nat.rec (motive := fun _ => Nat → List Nat → Bool) (fun _ _ => true) (fun _ ih i l => List.rec (motive := fun _ => Bool) false (fun a r _ => band (Nat.beq a i) (ih (Nat.succ i) r)) l) n 0 l
def lenR (l : Row) : Nat := Tr.rec (motive := fun _ => Nat) 0 (fun _ _ _ _ n => Nat.succ n) l
def appR {α : Type} (a b : List α) : List α := List.rec (motive := fun _ => List α) b (fun x _ ih => x :: ih) a
/-- The loops over functions. -/
def rfIn (c : Code) : List (Operand × Array Tmp × Code × Code) := Code.rec (motive := fun _ => List (Operand × Array Tmp × Code × Code)) [] (fun _ _ _ => []) (fun _ _ a b => appR a b) (fun _ _ _ a b => appR a b) (fun _ _ b => b) (fun _ b => b)
  (fun f ps a b ra rb => (f, ps, a, b) :: appR ra rb) (fun _ => []) (fun _ b => b) (fun _ => []) (fun _ => []) [] (fun _ => []) c
def fewRF (c : Code) : Bool := List.rec (motive := fun _ => Bool) true (fun _ r _ => List.rec (motive := fun _ => Bool) true (fun _ _ _ => false) r) (rfIn c)
def noRF (c : Code) : Bool := List.rec (motive := fun _ => Bool) true (fun _ _ _ => false) (rfIn c)
def fnS (C : Cx) : FnS :=
  match getO C.P.funcs.toList C.self with
  | none => noFn
  | some fn => match fn.body with
    | none => noFn
    | some c =>
      let s := (den C c).run .e (fun _ => okS) [] rtS
      let rs := fn.results.toList
      let n := fn.params.size + fn.nfree
      Bool.rec (motive := fun _ => FnS) noFn (Bool.rec (motive := fun _ => FnS) noFn ⟨fun l hp => must (Nat.beq (lenR l) n) (fillK 0 l (blank C.vars.length) fun fr =>
        Res.rec (motive := fun _ => Res) (fun fr hp => endF C rs fr hp) (fun _ _ _ => .fail) (fun fr hp => endF C rs fr hp) (fun _ _ => .fail) .fail (s.run .lf fr hp))⟩ (headVars n C.vars)) (band (fewRF c) (Nat.ble C.nt fn.ntmps))
def findRF (i : Nat) (c : Code) : Option (List Nat × Code × Code) := Code.rec (motive := fun _ => Option (List Nat × Code × Code)) none (fun _ _ _ => none) (fun _ _ a b => Option.rec (motive := fun _ => Option (List Nat × Code × Code)) b some a) (fun _ _ _ a b => Option.rec (motive := fun _ => Option (List Nat × Code × Code)) b some a) (fun _ _ b => b) (fun _ b => b)
  (fun _ ps a b _ rb => Bool.rec (motive := fun _ => Option (List Nat × Code × Code)) rb (some (ps.toList, a, b)) (Nat.beq (ps.getD 0 0) i)) (fun _ => none) (fun _ b => b) (fun _ => none) (fun _ => none) none (fun _ => none) c
/-- Arguments into the slots of a loop's variables. -/
def setK (C : Cx) (ps : List Nat) : Row → Fr → (Fr → Res) → Res := List.rec (motive := fun _ => Row → Fr → (Fr → Res) → Res) (fun l fr k => Tr.rec (motive := fun _ => Res) (k fr) (fun _ _ _ _ _ => .fail) l)
  (fun p _ ih l fr k => Tr.rec (motive := fun _ => Res) .fail (fun v _ r _ _ => must (Nat.ble (Nat.succ p) C.nt) (Src.rec (motive := fun _ => Res) (fun _ => .fail) (fun _ => .fail) (fun i => (fset i).f fr v fun fr => ih r fr k) .fail (idxOf p C.vars 0))) l) ps
/-- The ways out of a body: their numbers. -/
def idsOf (c : Code) : Exs := Code.rec (motive := fun _ => Exs) [] (fun _ _ _ => []) (fun _ _ a b => a ++ b) (fun _ _ _ a b => a ++ b) (fun id _ b => (Nat.mul 2 id, failS) :: b) (fun _ b => b) (fun _ _ _ _ a b => a ++ b) (fun _ => []) (fun _ b => b) (fun _ => []) (fun _ => []) [] (fun _ => []) c
def yldS (C : Cx) (i : Nat) : YldS :=
  match getO C.P.funcs.toList C.self with
  | none => noYld
  | some fn => match fn.body with
    | none => noYld
    | some c => match findRF i c with
      | none => noYld
      | some (ps, a, b) =>
        let s := (den C a).run .e (fun _ => okS) [] failS
        let t := (den C b).run .e (fun _ => okS) (exMap (idsOf c)) rtS
        Bool.rec (motive := fun _ => YldS) noYld ⟨fun fr l hp => setK C ps l fr fun fr => s.run .lf fr hp, fun fr hp => t.run .lf fr hp⟩ (band (noRF a) (noRF b))
end
end Go.Proofs.YtlffjnddiiojnaaGreatDoor.Ev

/- The evaluator: functions of Go's library whose contracts are known; a call deferred at a function's head. -/
namespace Go.Proofs.YtlffjnddiiojnaaGreatDoor.Ev
noncomputable section
/-- A string's bytes. -/
def bytesN (n : Nat) : Nat → List Nat := Nat.rec (motive := fun _ => Nat → List Nat) (fun _ => []) (fun _ ih s => Nat.mod s 256 :: ih (Nat.div s 256)) n
def nats (l : List UInt8) : List Nat := l.map (·.toNat)
def none64 : Nat := 18446744073709551615
def idxA (c : Nat) (l : List Nat) : Nat → Nat := List.rec (motive := fun _ => Nat → Nat) (fun _ => none64) (fun a _ ih i => Bool.rec (motive := fun _ => Nat) (ih (Nat.succ i)) i (Nat.beq a c)) l
def cntA (c : Nat) (l : List Nat) : Nat := List.rec (motive := fun _ => Nat) 0 (fun a _ ih => Bool.rec (motive := fun _ => Nat) ih (Nat.succ ih) (Nat.beq a c)) l
def preA (m : List Nat) : List Nat → Bool := List.rec (motive := fun _ => List Nat → Bool) (fun _ => true) (fun a _ ih l => List.rec (motive := fun _ => Bool) false (fun b r _ => Bool.rec (motive := fun _ => Bool) false (ih r) (Nat.beq a b)) l) m
def subA (m : List Nat) (l : List Nat) : Nat → Nat := List.rec (motive := fun _ => Nat → Nat) (fun i => Bool.rec (motive := fun _ => Nat) none64 i (preA m [])) (fun a r ih i => Bool.rec (motive := fun _ => Nat) (ih (Nat.succ i)) i (preA m (a :: r))) l
def decA (l : List Nat) : Nat → Option Nat := List.rec (motive := fun _ => Nat → Option Nat) (fun acc => some acc) (fun b _ ih acc => Bool.rec (motive := fun _ => Option Nat) none (Bool.rec (motive := fun _ => Option Nat) none (ih (Nat.add (Nat.mul acc 10) (Nat.sub b 48))) (Nat.ble b 57)) (Nat.ble 48 b)) l
def decL (l : List Nat) : Option Nat := List.rec (motive := fun _ => Option Nat) none (fun b r _ => decA (b :: r) 0) l
/-- The number's bits; none: no numeral. -/
def atoA (l : List Nat) : Option Nat := List.rec (motive := fun _ => Option Nat) none (fun b r _ => Bool.rec (motive := fun _ => Option Nat) (Bool.rec (motive := fun _ => Option Nat) (decL (b :: r)) (decL r) (Nat.beq b 43)) (Option.rec (motive := fun _ => Option Nat) none (fun m => some (Nat.mod (Nat.sub big m) big)) (decL r)) (Nat.beq b 45)) l
def arg1 (l : Row) (k : AV → Row → Res) : Res := Tr.rec (motive := fun _ => Res) .fail (fun v _ r _ _ => k v r) l
def arg0 (l : Row) (k : Res) : Res := Tr.rec (motive := fun _ => Res) k (fun _ _ _ _ _ => .fail) l
def idxF : FnS := ⟨fun l hp => arg1 l fun a r => arg1 r fun b r => arg0 r (a.onStr fun s n => b.onInt fun i c => must (Nat.beq i 4) (must (Nat.ble n 4294967280) (intK 3 (idxA c (bytesN n s) 0) fun v => .val v hp)))⟩
def cntF : FnS := ⟨fun l hp => arg1 l fun a r => arg1 r fun b r => arg0 r (a.onStr fun s n => b.onStr fun t m => must (Nat.beq m 1) (must (Nat.ble n 4294967280) (intK 3 (cntA t (bytesN n s)) fun v => .val v hp)))⟩
/-- At a string of one byte it is known; else as it stands. -/
def cntG (F : FnS) : FnS := ⟨fun l hp => arg1 l fun _ r => arg1 r fun b _ => b.onStr fun _ m => when (Nat.beq m 1) (cntF.f l hp) (F.f l hp)⟩
def subF : FnS := ⟨fun l hp => arg1 l fun a r => arg1 r fun b r => arg0 r (a.onStr fun s n => b.onStr fun t m => must (Nat.ble n 4294967280) (intK 3 (subA (bytesN m t) (bytesN n s) 0) fun v => .val v hp))⟩
def atoF (T : Nat) : FnS := ⟨fun l hp => arg1 l fun a r => arg0 r (a.onStr fun s n => must (Nat.ble n 18) (Option.rec (motive := fun _ => Res) (.val (.tup (.nd (.int 3 0) .lf (.nd (.x 12 .lf T 0 0) .lf .lf)) 2) hp) (fun m => intK 3 m fun v => .val (.tup (.nd v .lf (.nd (.x 11 .lf 0 0 0) .lf .lf)) 2) hp) (atoA (bytesN n s))))⟩

structure Dfd where
  ia : Nat
  a : Array Oper
  id : Nat
  o0 : Oper
  o1 : Oper
  g : Nat
  fs : Array Operand
  caps : Array Operand
  t : Nat
  t' : Nat
  as : Array Operand
  ts : Array TypeId
  rest : Code
/-- The operations as they must be. -/
def opsD (o0 o1 : Oper) : Option (Nat × Array Operand × Array Operand × Nat × Nat × Array Operand × Array TypeId) := match o0.op, o0.dst, o0.guard, o1.op, o1.dst, o1.guard with
  | .makeFunc (.func g) fs caps, some t, none, .defer ⟨.value (.tmp t'), as, ts⟩, none, none => some (g, fs, caps, t, t', as, ts)
  | _, _, _, _, _, _ => none
def twoOf (l : List Oper) : Option (Oper × Oper) := match l with
  | [x, y] => some (x, y)
  | _ => none
def splitD (c : Code) : Option Dfd := match c with
  | .seq (.region ia a false) (.seq (.region id ops false) rest) => (twoOf ops.toList).bind fun p => (opsD p.1 p.2).map fun q => ⟨ia, a, id, p.1, p.2, q.1, q.2.1, q.2.2.1, q.2.2.2.1, q.2.2.2.2.1, q.2.2.2.2.2.1, q.2.2.2.2.2.2, rest⟩
  | _ => none
def noSlot (C : Cx) (g : G) (t : Nat) : Bool := match look C g t with
  | .no => Nat.ble (Nat.succ t) C.nt
  | _ => false
/-- The end: the closure, then the results. -/
def finD (C : Cx) (rs : List ResultVar) (u : Row) (fr : Fr) (hp : Hp) : Res :=
  arg1 u fun p r => arg1 r fun _ r => arg1 r fun _ r => arg0 r (p.onPtr (fun b o => hp.use C.M b (Nat.succ o) fun _ _ z _ t => rdC C.M z t o fun v => v.onInt fun i n => must (Nat.beq i 3) (must (Nat.beq n 0) (endF C rs fr hp))) (fun _ _ _ _ => .fail))
def endRes (C : Cx) (rs : List ResultVar) (u : Row) (r : Res) : Res := Res.rec (motive := fun _ => Res) (fun fr hp => finD C rs u fr hp) (fun _ _ _ => .fail) (fun fr hp => finD C rs u fr hp) (fun _ _ => .fail) .fail r
/-- Behind what makes the variables. -/
def midD (C : Cx) (rs : List ResultVar) (q : Dfd) (g : G) : Sm :=
  let k := ak (q.caps.toList.map (rdO C g)); let s2 := (den C q.rest).run g (fun _ => okS) [] rtS
  iff (noSlot C g q.t) ⟨fun sk fr hp => k.f sk fr fun u => endRes C rs u (s2.run sk fr hp)⟩
/-- A value alone. -/
def onlyVal (r : Res) : Res := Res.rec (motive := fun _ => Res) (fun _ _ => .fail) (fun _ _ _ => .fail) (fun _ _ => .fail) (fun v hp => .val v hp) .fail r
def okD (q : Dfd) : Bool := band (Nat.beq q.fs.size 0) (band (Nat.beq q.as.size 0) (Nat.beq q.t q.t'))
def fnSD (C : Cx) : FnS :=
  match getO C.P.funcs.toList C.self with
  | none => noFn
  | some fn => match fn.body with
    | none => noFn
    | some c => match splitD c with
      | none => noFn
      | some q =>
        let s := denOps C q.a q.a.toList .e (fun g => midD C fn.results.toList q g)
        let n := fn.params.size + fn.nfree
        Bool.rec (motive := fun _ => FnS) noFn (Bool.rec (motive := fun _ => FnS) noFn ⟨fun l hp => must (Nat.beq (lenR l) n) (fillK 0 l (blank C.vars.length) fun fr => onlyVal (s.run .lf fr hp))⟩ (headVars n C.vars)) (band (okD q) (band (noRF q.rest) (Nat.ble C.nt fn.ntmps)))
end
end Go.Proofs.YtlffjnddiiojnaaGreatDoor.Ev

/- The evaluator: a call deferred at a function's head, run as it stands. -/
namespace Go.Proofs.YtlffjnddiiojnaaGreatDoor.Ev
noncomputable section
/-- The end: the closure, then the results. -/
def finE (C : Cx) (G : FnS) (rs : List ResultVar) (u : Row) (fr : Fr) (hp : Hp) : Res := shareK G u hp fun _ hp => endF C rs fr hp
def endResE (C : Cx) (G : FnS) (rs : List ResultVar) (u : Row) (r : Res) : Res := Res.rec (motive := fun _ => Res) (fun fr hp => finE C G rs u fr hp) (fun _ _ _ => .fail) (fun fr hp => finE C G rs u fr hp) (fun _ _ => .fail) .fail r
def midE (C : Cx) (G : FnS) (rs : List ResultVar) (q : Dfd) (g : Ev.G) : Sm :=
  let k := ak (q.caps.toList.map (rdO C g)); let s2 := (den C q.rest).run g (fun _ => okS) [] rtS
  iff (noSlot C g q.t) ⟨fun sk fr hp => k.f sk fr fun u => endResE C G rs u (s2.run sk fr hp)⟩
def fnSE (C : Cx) (G : FnS) : FnS :=
  match getO C.P.funcs.toList C.self with
  | none => noFn
  | some fn => match fn.body with
    | none => noFn
    | some c => match splitD c with
      | none => noFn
      | some q =>
        let s := denOps C q.a q.a.toList .e (fun g => midE C G fn.results.toList q g)
        let n := fn.params.size + fn.nfree
        Bool.rec (motive := fun _ => FnS) noFn (Bool.rec (motive := fun _ => FnS) noFn ⟨fun l hp => must (Nat.beq (lenR l) n) (fillK 0 l (blank C.vars.length) fun fr => onlyVal (s.run .lf fr hp))⟩ (headVars n C.vars)) (band (okD q) (band (noRF q.rest) (Nat.ble C.nt fn.ntmps)))
end
end Go.Proofs.YtlffjnddiiojnaaGreatDoor.Ev
