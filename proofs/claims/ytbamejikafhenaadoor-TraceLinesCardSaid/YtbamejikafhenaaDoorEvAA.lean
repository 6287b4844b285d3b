import Derived.KernelRfl
import GoSem.Core.Program
import GoSem.Core.View
import GoSem.Core.Region
namespace Go.Proofs.YtbamejikafhenaaDoor.Ev
noncomputable section
inductive Tr (α : Type) where
  | lf
  | nd (v : α) (l r : Tr α)
inductive AV where
  | int (k n : Nat)
  | bool (b : Bool)
  | str (s n : Nat)
  | ptr (b o : Nat)
  | ms (b o n z : Nat)
  | vs (t : Tr AV) (o n z : Nat)
  | agg (t : Tr AV) (n : Nat)
  | bB (t : Tr AV) (n : Nat)
  | x (g : Nat) (t : Tr AV) (a b c : Nat)
abbrev Row := Tr AV
abbrev AV.uu : AV := .x 0 .lf 0 0 0
inductive Fr where
  | e
  | n (a b c d e f g h : AV) (r : Fr)
inductive bX where
  | dead
  | row (rw fl : Bool) (z sz : Nat) (t : Row)
  | map (n : Nat) (t : Row)
  | loop (st f i : Nat) (fr : Fr)
  | fwd (id : Nat)
structure Hp where
  t : Tr bX
  nx : Nat
  pr : List Nat
  rb : Nat
abbrev Hp.empty : Hp := ⟨.lf, 0, [], 0⟩
inductive aa where
  | ok (fr : Fr) (hp : Hp)
  | exit (n : Nat) (fr : Fr) (hp : Hp)
  | ret (fr : Fr) (hp : Hp)
  | val (v : AV) (hp : Hp)
  | fail
structure Sm where
  run : Row → Fr → Hp → aa
structure GK (α : Type) where
  f : Tr α → Nat → (α → aa) → aa
structure SK (α : Type) where
  f : Tr α → Nat → α → (Tr α → aa) → aa
def gkS {α : Type} (d : α) (ih : GK α) : GK α := ⟨fun t i k => Tr.rec (motive := fun _ => aa) (k d) (fun v l r _ _ => Nat.rec (motive := fun _ => aa) (k v) (fun j _ => Nat.rec (motive := fun _ => aa) (ih.f l (Nat.div j 2) k) (fun _ _ => ih.f r (Nat.div j 2) k) (Nat.mod j 2)) i) t⟩
def gk {α : Type} (d : α) (n : Nat) : GK α := Nat.rec (motive := fun _ => GK α) ⟨fun _ _ _ => .fail⟩ (fun _ ih => gkS d ih) n
def skS {α : Type} (d : α) (ih : SK α) : SK α := ⟨fun t i x k => Tr.rec (motive := fun _ => aa)
      (Nat.rec (motive := fun _ => aa) (k (.nd x .lf .lf)) (fun j _ => Nat.rec (motive := fun _ => aa) (ih.f .lf (Nat.div j 2) x fun l => k (.nd d l .lf)) (fun _ _ => ih.f .lf (Nat.div j 2) x fun r => k (.nd d .lf r)) (Nat.mod j 2)) i)
      (fun v l r _ _ => Nat.rec (motive := fun _ => aa) (k (.nd x l r)) (fun j _ => Nat.rec (motive := fun _ => aa) (ih.f l (Nat.div j 2) x fun l' => k (.nd v l' r)) (fun _ _ => ih.f r (Nat.div j 2) x fun r' => k (.nd v l r')) (Nat.mod j 2)) i) t⟩
def sk {α : Type} (d : α) (n : Nat) : SK α := Nat.rec (motive := fun _ => SK α) ⟨fun _ _ _ _ => .fail⟩ (fun _ ih => skS d ih) n
structure Mem where
  rg : GK AV
  rs : SK AV
  hg : GK bX
  hs : SK bX
def mem : Mem := ⟨gk .uu 24, sk .uu 24, gk .dead 24, sk .dead 24⟩
def aG (n : Nat) (k : Nat → aa) : aa := Nat.rec (motive := fun _ => aa) (k 0) (fun m _ => k (Nat.succ m)) n
def iU (b : Bool) (k : Bool → aa) : aa := Bool.rec (motive := fun _ => aa) (k false) (k true) b
structure Rd where
  get : Row → Fr → (AV → aa) → aa
structure FS where
  f : Fr → AV → (Fr → aa) → aa
def fget : Nat → Rd
  | 0 => ⟨fun _ fr k => Fr.rec (motive := fun _ => aa) .fail (fun a _ _ _ _ _ _ _ _ _ => k a) fr⟩
  | 1 => ⟨fun _ fr k => Fr.rec (motive := fun _ => aa) .fail (fun _ a _ _ _ _ _ _ _ _ => k a) fr⟩
  | 2 => ⟨fun _ fr k => Fr.rec (motive := fun _ => aa) .fail (fun _ _ a _ _ _ _ _ _ _ => k a) fr⟩
  | 3 => ⟨fun _ fr k => Fr.rec (motive := fun _ => aa) .fail (fun _ _ _ a _ _ _ _ _ _ => k a) fr⟩
  | 4 => ⟨fun _ fr k => Fr.rec (motive := fun _ => aa) .fail (fun _ _ _ _ a _ _ _ _ _ => k a) fr⟩
  | 5 => ⟨fun _ fr k => Fr.rec (motive := fun _ => aa) .fail (fun _ _ _ _ _ a _ _ _ _ => k a) fr⟩
  | 6 => ⟨fun _ fr k => Fr.rec (motive := fun _ => aa) .fail (fun _ _ _ _ _ _ a _ _ _ => k a) fr⟩
  | 7 => ⟨fun _ fr k => Fr.rec (motive := fun _ => aa) .fail (fun _ _ _ _ _ _ _ a _ _ => k a) fr⟩
  | n + 8 => let g := fget n; ⟨fun sk fr k => Fr.rec (motive := fun _ => aa) .fail (fun _ _ _ _ _ _ _ _ r _ => g.get sk r k) fr⟩
def fset : Nat → FS
  | 0 => ⟨fun fr x k => Fr.rec (motive := fun _ => aa) .fail (fun _ b c d e f g h r _ => k (.n x b c d e f g h r)) fr⟩
  | 1 => ⟨fun fr x k => Fr.rec (motive := fun _ => aa) .fail (fun a _ c d e f g h r _ => k (.n a x c d e f g h r)) fr⟩
  | 2 => ⟨fun fr x k => Fr.rec (motive := fun _ => aa) .fail (fun a b _ d e f g h r _ => k (.n a b x d e f g h r)) fr⟩
  | 3 => ⟨fun fr x k => Fr.rec (motive := fun _ => aa) .fail (fun a b c _ e f g h r _ => k (.n a b c x e f g h r)) fr⟩
  | 4 => ⟨fun fr x k => Fr.rec (motive := fun _ => aa) .fail (fun a b c d _ f g h r _ => k (.n a b c d x f g h r)) fr⟩
  | 5 => ⟨fun fr x k => Fr.rec (motive := fun _ => aa) .fail (fun a b c d e _ g h r _ => k (.n a b c d e x g h r)) fr⟩
  | 6 => ⟨fun fr x k => Fr.rec (motive := fun _ => aa) .fail (fun a b c d e f _ h r _ => k (.n a b c d e f x h r)) fr⟩
  | 7 => ⟨fun fr x k => Fr.rec (motive := fun _ => aa) .fail (fun a b c d e f g _ r _ => k (.n a b c d e f g x r)) fr⟩
  | n + 8 => let s := fset n; ⟨fun fr x k => Fr.rec (motive := fun _ => aa) .fail (fun a b c d e f g h r _ => s.f r x fun r => k (.n a b c d e f g h r)) fr⟩
def blank : Nat → Fr
  | m + 8 => .n .uu .uu .uu .uu .uu .uu .uu .uu (blank m)
  | _ => .n .uu .uu .uu .uu .uu .uu .uu .uu .e
def a4b : Nat → Rd
  | 0 => ⟨fun sk _ k => Tr.rec (motive := fun _ => aa) .fail (fun v _ _ _ _ => k v) sk⟩
  | n + 1 => let g := a4b n; ⟨fun sk fr k => Tr.rec (motive := fun _ => aa) .fail (fun _ _ r _ _ => g.get r fr k) sk⟩
section elim
variable (v : AV)
def AV.bV (f : Nat → Nat → aa) : aa := @AV.rec (fun _ => aa) (fun _ => Unit) f (fun _ => .fail) (fun _ _ => .fail) (fun _ _ => .fail) (fun _ _ _ _ => .fail) (fun _ _ _ _ _ => .fail) (fun _ _ _ => .fail) (fun _ _ _ => .fail) (fun _ _ _ _ _ _ => .fail) () (fun _ _ _ _ _ _ => ()) v
def AV.ay (f : Bool → aa) : aa := @AV.rec (fun _ => aa) (fun _ => Unit) (fun _ _ => .fail) f (fun _ _ => .fail) (fun _ _ => .fail) (fun _ _ _ _ => .fail) (fun _ _ _ _ _ => .fail) (fun _ _ _ => .fail) (fun _ _ _ => .fail) (fun _ _ _ _ _ _ => .fail) () (fun _ _ _ _ _ _ => ()) v
def AV.ea (f : Nat → Nat → aa) : aa := @AV.rec (fun _ => aa) (fun _ => Unit) (fun _ _ => .fail) (fun _ => .fail) f (fun _ _ => .fail) (fun _ _ _ _ => .fail) (fun _ _ _ _ _ => .fail) (fun _ _ _ => .fail) (fun _ _ _ => .fail) (fun _ _ _ _ _ _ => .fail) () (fun _ _ _ _ _ _ => ()) v
def AV.jq (f : Row → Nat → aa) : aa := @AV.rec (fun _ => aa) (fun _ => Unit) (fun _ _ => .fail) (fun _ => .fail) (fun _ _ => .fail) (fun _ _ => .fail) (fun _ _ _ _ => .fail) (fun _ _ _ _ _ => .fail) (fun t n _ => f t n) (fun _ _ _ => .fail) (fun _ _ _ _ _ _ => .fail) () (fun _ _ _ _ _ _ => ()) v
def AV.wx (f : Row → Nat → aa) : aa := @AV.rec (fun _ => aa) (fun _ => Unit) (fun _ _ => .fail) (fun _ => .fail) (fun _ _ => .fail) (fun _ _ => .fail) (fun _ _ _ _ => .fail) (fun _ _ _ _ _ => .fail) (fun _ _ _ => .fail) (fun t n _ => f t n) (fun _ _ _ _ _ _ => .fail) () (fun _ _ _ _ _ _ => ()) v
def AV.onX (f : Nat → Row → Nat → Nat → Nat → aa) : aa := @AV.rec (fun _ => aa) (fun _ => Unit) (fun _ _ => .fail) (fun _ => .fail) (fun _ _ => .fail) (fun _ _ => .fail) (fun _ _ _ _ => .fail) (fun _ _ _ _ _ => .fail) (fun _ _ _ => .fail) (fun _ _ _ => .fail) (fun g t a b c _ => f g t a b c) () (fun _ _ _ _ _ _ => ()) v
def AV.pX (f : Nat → Nat → aa) (g : Row → Nat → Nat → Nat → aa) : aa := @AV.rec (fun _ => aa) (fun _ => Unit) (fun _ _ => .fail) (fun _ => .fail) (fun _ _ => .fail) f (fun _ _ _ _ => .fail) (fun _ _ _ _ _ => .fail) (fun _ _ _ => .fail) (fun _ _ _ => .fail) (fun i t a b c _ => Bool.rec (motive := fun _ => aa) .fail (g t a b c) (Nat.beq i 1)) () (fun _ _ _ _ _ _ => ()) v
def AV.fg (f : Nat → Nat → Nat → Nat → aa) (r : Row → Nat → Nat → Nat → aa) (z : Nat → aa) (s : Nat → Nat → aa) : aa := @AV.rec (fun _ => aa) (fun _ => Unit) (fun _ _ => .fail) (fun _ => .fail) s (fun _ _ => .fail) f (fun t o n z _ => r t o n z) (fun _ _ _ => .fail) (fun _ _ _ => .fail) (fun i _ _ _ _ _ => z i) () (fun _ _ _ _ _ _ => ()) v
def AV.on (i : Nat → Nat → aa) (b : Bool → aa) (s : Nat → Nat → aa) (p : Nat → Nat → aa) (m : Nat → Nat → Nat → Nat → aa) (r : Row → Nat → Nat → Nat → aa) (a : Row → Nat → aa) (t : Row → Nat → aa) (x : Nat → Row → Nat → Nat → Nat → aa) : aa :=
  @AV.rec (fun _ => aa) (fun _ => Unit) i b s p m (fun t o n z _ => r t o n z) (fun t n _ => a t n) (fun u n _ => t u n) (fun g t a b c _ => x g t a b c) () (fun _ _ _ _ _ _ => ()) v
end elim
def when (b : Bool) (yes no : aa) : aa := Bool.rec (motive := fun _ => aa) no yes b
def ar (b : Bool) (yes : aa) : aa := Bool.rec (motive := fun _ => aa) .fail yes b
def bX.lO (B : bX) (f : Bool → Bool → Nat → Nat → Row → aa) : aa := bX.rec (motive := fun _ => aa) .fail f (fun _ _ => .fail) (fun _ _ _ _ => .fail) (fun _ => .fail) B
def bX.q8 (B : bX) (f : Nat → Row → aa) : aa := bX.rec (motive := fun _ => aa) .fail (fun _ _ _ _ _ => .fail) f (fun _ _ _ _ => .fail) (fun _ => .fail) B
def bX.ye (B : bX) (f : Nat → Nat → Nat → Fr → aa) : aa := bX.rec (motive := fun _ => aa) .fail (fun _ _ _ _ _ => .fail) (fun _ _ => .fail) f (fun _ => .fail) B
def Hp.get (M : Mem) (h : Hp) (b : Nat) (k : bX → aa) : aa := Hp.rec (motive := fun _ => aa) (fun t _ _ _ => M.hg.f t b k) h
def Hp.put (M : Mem) (h : Hp) (b : Nat) (B : bX) (k : Hp → aa) : aa := Hp.rec (motive := fun _ => aa) (fun t nx pr rb => M.hs.f t b B fun t' => k ⟨t', nx, pr, rb⟩) h
structure NK where
  f : Hp → bX → (Nat → Hp → aa) → aa
def aY (M : Mem) : NK := ⟨fun h B k => Hp.rec (motive := fun _ => aa) (fun t nx pr rb => aG nx fun nx => M.hs.f t nx B fun t' => k nx ⟨t', Nat.succ nx, pr, rb⟩) h⟩
def jR (M : Mem) (i : Nat) : NK := ⟨fun h B k => Hp.rec (motive := fun _ => aa) (fun t nx pr rb => aG (Nat.add rb i) fun id => M.hs.f t id B fun t' => k id ⟨t', nx, pr, rb⟩) h⟩
def Hp.use (M : Mem) (h : Hp) (b m : Nat) (k : Bool → Bool → Nat → Nat → Row → aa) : aa := h.get M b fun B => B.lO fun rw fl z s t => ar (Nat.ble m s) (k rw fl z s t)
def zo (b : Nat) (l : List Nat) (k : aa) : aa := List.rec (motive := fun _ => aa) k (fun a _ ih => Bool.rec (motive := fun _ => aa) ih .fail (Nat.beq a b)) l
def Hp.own (M : Mem) (h : Hp) (b m : Nat) (k : Bool → Nat → Nat → Row → aa) : aa := h.use M b m fun rw fl z s t => ar rw (Hp.rec (motive := fun _ => aa) (fun _ _ pr _ => zo b pr (k fl z s t)) h)
structure CK where
  f : Row → Nat → Row → Nat → (Row → aa) → aa
def cp (M : Mem) (n : Nat) : CK := Nat.rec (motive := fun _ => CK) ⟨fun _ _ d _ k => k d⟩ (fun _ ih => ⟨fun s o d p k => M.rg.f s o fun v => M.rs.f d p v fun d' => ih.f s (Nat.succ o) d' (Nat.succ p) k⟩) n
def Tr.full {α : Type} (v : α) (n : Nat) : Tr α := Nat.rec (motive := fun _ => Tr α) .lf (fun _ ih => .nd v ih ih) n
def depth (n : Nat) : Nat := Nat.succ (Nat.log2 (Nat.succ n))
def jP (g : Nat) : Bool := Bool.rec (motive := fun _ => Bool) false (Nat.ble g 11) (Nat.ble 7 g)
def AV.plain (v : AV) (k : Bool → aa) : aa := v.on (fun _ _ => k true) (fun _ => k true) (fun _ _ => k true) (fun _ _ => k false) (fun _ _ _ _ => k false) (fun _ _ _ _ => k false) (fun _ _ => k false) (fun _ _ => k false) (fun g _ _ _ _ => iU (jP g) k)
def bp (a b : Bool) : Bool := Bool.rec (motive := fun _ => Bool) false b a
structure LG where
  f : Row → (AV → aa) → aa
structure LS where
  f : Row → AV → (Row → aa) → aa
structure LD where
  f : Row → (Row → aa) → aa
def yD (n : Nat) : LG := Nat.rec (motive := fun _ => LG) ⟨fun t k => Tr.rec (motive := fun _ => aa) .fail (fun v _ _ _ _ => k v) t⟩ (fun _ ih => ⟨fun t k => Tr.rec (motive := fun _ => aa) .fail (fun _ _ r _ _ => ih.f r k) t⟩) n
def yY (n : Nat) : LS := Nat.rec (motive := fun _ => LS) ⟨fun t x k => Tr.rec (motive := fun _ => aa) .fail (fun _ _ r _ _ => k (.nd x .lf r)) t⟩ (fun _ ih => ⟨fun t x k => Tr.rec (motive := fun _ => aa) .fail (fun v _ r _ _ => ih.f r x fun r => k (.nd v .lf r)) t⟩) n
def a8z (n : Nat) : LD := Nat.rec (motive := fun _ => LD) ⟨fun t k => k t⟩ (fun _ ih => ⟨fun t k => Tr.rec (motive := fun _ => aa) .fail (fun _ _ r _ _ => ih.f r k) t⟩) n
def aaA (n : Nat) : LD := Nat.rec (motive := fun _ => LD) ⟨fun _ k => k .lf⟩ (fun _ ih => ⟨fun t k => Tr.rec (motive := fun _ => aa) .fail (fun v _ r _ _ => ih.f r fun r => k (.nd v .lf r)) t⟩) n
def eM (l : Row) (k : Bool → aa) : aa := Tr.rec (motive := fun _ => aa) (k true) (fun v _ _ _ ih => v.plain fun b => when b ih (k false)) l
def rdC (M : Mem) (z : Nat) (t : Row) (i : Nat) (k : AV → aa) : aa := when (Nat.beq z 1) (M.rg.f t i k) (M.rg.f t (Nat.div i z) fun v => v.jq fun l _ => (yD (Nat.mod i z)).f l k)
def wrC (M : Mem) (z : Nat) (t : Row) (i : Nat) (c : AV) (k : Row → aa) : aa := when (Nat.beq z 1) (M.rs.f t i c k) (M.rg.f t (Nat.div i z) fun v => v.jq fun l n => (yY (Nat.mod i z)).f l c fun l => M.rs.f t (Nat.div i z) (.agg l n) k)
structure GL where
  f : Row → Nat → (Row → aa) → aa
def getC (M : Mem) (z n : Nat) : GL := Nat.rec (motive := fun _ => GL) ⟨fun _ _ k => k .lf⟩ (fun _ ih => ⟨fun t o k => rdC M z t o fun v => ih.f t (Nat.succ o) fun r => k (.nd v .lf r)⟩) n
structure PL where
  f : Row → Row → Nat → (Row → aa) → aa
def nW (M : Mem) (z n : Nat) : PL := Nat.rec (motive := fun _ => PL) ⟨fun _ t _ k => k t⟩ (fun _ ih => ⟨fun l t o k => Tr.rec (motive := fun _ => aa) .fail (fun v _ r _ _ => wrC M z t o v fun t => ih.f r t (Nat.succ o) k) l⟩) n
def rdV (M : Mem) (ag : Bool) (sz z : Nat) (t : Row) (o : Nat) (k : AV → aa) : aa :=
  Bool.rec (motive := fun _ => aa) (ar (Nat.beq sz 1) (rdC M z t o k))
    (when (Nat.beq sz 1) (rdC M z t o fun v => k (.agg (.nd v .lf .lf) 1))
      (when (bp (Nat.beq z sz) (Nat.beq (Nat.mod o z) 0)) (M.rg.f t (Nat.div o z) fun v => v.jq fun l n => ar (Nat.beq n sz) (k (.agg l n)))
        ((getC M z sz).f t o fun l => k (.agg l sz)))) ag
def lP (v : AV) (k : AV → Bool → aa) : aa := v.on (fun _ _ => k v true) (fun _ => k v true) (fun _ _ => k v true) (fun _ _ => k v false) (fun _ _ _ _ => k v false) (fun _ _ _ _ => k v false)
  (fun l n => ar (Nat.beq n 1) ((yD 0).f l fun c => c.plain fun p => k c p)) (fun _ _ => .fail) (fun g _ _ _ _ => ar (Nat.ble 1 g) (iU (jP g) fun f => k v f))
def wrV (M : Mem) (sz z : Nat) (t : Row) (o : Nat) (v : AV) (k : Row → Bool → aa) : aa :=
  when (Nat.beq sz 1) (lP v fun c p => wrC M z t o c fun t => k t p)
    (v.jq fun l n => ar (Nat.beq n sz) (ar (Nat.ble 1 sz) (eM l fun p => when (bp (Nat.beq z sz) (Nat.beq (Nat.mod o z) 0)) (M.rs.f t (Nat.div o z) v fun t => k t p) ((nW M z sz).f l t o fun t => k t p))))
end
end Go.Proofs.YtbamejikafhenaaDoor.Ev
open Go
namespace Go.Proofs.YtbamejikafhenaaDoor.Tz
set_option linter.defProp false
def Y9 := And.intro @List.drop_succ_cons.{0} (And.intro @List.drop_zero.{0} (And.intro @List.take_succ_cons.{0} (@List.take_zero.{0})))
end Go.Proofs.YtbamejikafhenaaDoor.Tz
namespace Go.Proofs.YtbamejikafhenaaDoor.Ev
noncomputable section
def kc (k : IntKind) : Nat := IntKind.rec 0 1 2 3 4 5 6 7 k
def kd : Nat → IntKind | 0 => .i8 | 1 => .i16 | 2 => .i32 | 3 => .i64 | 4 => .u8 | 5 => .u16 | 6 => .u32 | _ => .u64
def md : Nat → Nat | 0 => 256 | 1 => 65536 | 2 => 4294967296 | 3 => 18446744073709551616 | 4 => 256 | 5 => 65536 | 6 => 4294967296 | _ => 18446744073709551616
def hf : Nat → Nat | 0 => 128 | 1 => 32768 | 2 => 2147483648 | 3 => 9223372036854775808 | _ => 0
def big : Nat := 18446744073709551616
def wd : Nat → Nat | 0 => 8 | 1 => 16 | 2 => 32 | 3 => 64 | 4 => 8 | 5 => 16 | 6 => 32 | _ => 64
def rF (M H M' n : Nat) : Nat := Nat.rec (motive := fun _ => Nat) (Nat.mod n M') (fun _ _ => Bool.rec (motive := fun _ => Nat) (Nat.mod n M') (Nat.mod (Nat.add n (Nat.sub big M)) M') (Nat.ble H n)) H
def nD (i m : Nat) (k : aa) : aa := when (Nat.ble 4 i) k (ar (Nat.ble (Nat.succ m) (hf i)) k)
def fP (v : AV) (n : Nat) (k : Nat → aa) : aa := v.bV fun i m => ar (Nat.ble (Nat.succ m) n) (nD i m (k m))
def gY (v : AV) (n : Nat) (k : Nat → aa) : aa := v.bV fun i m => ar (Nat.ble m n) (nD i m (k m))
structure BK where
  f : AV → AV → (AV → aa) → aa
def kS (i : Nat) (a b : AV) (f : Nat → Nat → aa) : aa := a.bV fun j x => b.bV fun l y => ar (Nat.beq j i) (ar (Nat.beq l i) (f x y))
def bu (i n : Nat) (k : AV → aa) : aa := Nat.rec (motive := fun _ => aa) (k (.int i 0)) (fun m _ => k (.int i (Nat.succ m))) n
def a98 (M H n : Nat) (k : Bool → Nat → aa) : aa := Nat.rec (motive := fun _ => aa) (k false n) (fun _ _ => Bool.rec (motive := fun _ => aa) (k false n) (k true (Nat.sub M n)) (Nat.ble H n)) H
def abh (i M : Nat) (s : Bool) (n : Nat) (k : AV → aa) : aa := Bool.rec (motive := fun _ => aa) (bu i (Nat.mod n M) k) (bu i (Nat.mod (Nat.sub M n) M) k) s
def a15 (a b : Bool) : Bool := Bool.rec (motive := fun _ => Bool) b (Bool.rec (motive := fun _ => Bool) true false b) a
def dv (a : Bool) : Bool := Bool.rec (motive := fun _ => Bool) true false a
def a96 (v : AV) (w : Nat) (far : aa) (k : Nat → aa) : aa := v.bV fun j y => nD j y (when (Nat.ble w y) far (k y))
def uX (i M H w : Nat) : BinOp → BK
  | .add => ⟨fun a b k => kS i a b fun x y => bu i (Nat.mod (Nat.add x y) M) k⟩
  | .sub => ⟨fun a b k => kS i a b fun x y => bu i (Nat.mod (Nat.sub (Nat.add x M) y) M) k⟩
  | .mul => ⟨fun a b k => kS i a b fun x y => bu i (Nat.mod (Nat.mul x y) M) k⟩
  | .quo => ⟨fun a b k => kS i a b fun x y => when (Nat.beq y 0) .fail (a98 M H x fun s x => a98 M H y fun t y => abh i M (a15 s t) (Nat.div x y) k)⟩
  | .rem => ⟨fun a b k => kS i a b fun x y => when (Nat.beq y 0) .fail (a98 M H x fun s x => a98 M H y fun _ y => abh i M s (Nat.mod x y) k)⟩
  | .and => ⟨fun a b k => kS i a b fun x y => bu i (Nat.land x y) k⟩
  | .or => ⟨fun a b k => kS i a b fun x y => bu i (Nat.lor x y) k⟩
  | .xor => ⟨fun a b k => kS i a b fun x y => bu i (Nat.xor x y) k⟩
  | .andNot => ⟨fun a b k => kS i a b fun x y => bu i (Nat.xor x (Nat.land x y)) k⟩
  | .shl => ⟨fun a b k => a.bV fun j x => ar (Nat.beq j i) (a96 b w (k (.int i 0)) fun y => bu i (Nat.mod (Nat.mul x (Nat.pow 2 y)) M) k)⟩
  | .shr => ⟨fun a b k => a.bV fun j x => ar (Nat.beq j i) (Nat.rec (motive := fun _ => aa) (a96 b w (k (.int i 0)) fun y => bu i (Nat.div x (Nat.pow 2 y)) k)
      (fun _ _ => when (Nat.ble H x)
        (a96 b w (k (.int i (Nat.sub M 1))) fun y => bu i (Nat.sub (Nat.sub M 1) (Nat.div (Nat.sub (Nat.sub M 1) x) (Nat.pow 2 y))) k)
        (a96 b w (k (.int i 0)) fun y => bu i (Nat.div x (Nat.pow 2 y)) k)) H)⟩
  | .lss => Nat.rec (motive := fun _ => BK) ⟨fun a b k => kS i a b fun x y => k (.bool (Nat.ble (Nat.succ x) y))⟩ (fun _ _ => ⟨fun a b k => kS i a b fun x y => k (.bool (Nat.ble (Nat.succ (Nat.mod (Nat.add x H) M)) (Nat.mod (Nat.add y H) M)))⟩) H
  | .leq => Nat.rec (motive := fun _ => BK) ⟨fun a b k => kS i a b fun x y => k (.bool (Nat.ble x y))⟩ (fun _ _ => ⟨fun a b k => kS i a b fun x y => k (.bool (Nat.ble (Nat.mod (Nat.add x H) M) (Nat.mod (Nat.add y H) M)))⟩) H
  | .gtr => Nat.rec (motive := fun _ => BK) ⟨fun a b k => kS i a b fun x y => k (.bool (Nat.ble (Nat.succ y) x))⟩ (fun _ _ => ⟨fun a b k => kS i a b fun x y => k (.bool (Nat.ble (Nat.succ (Nat.mod (Nat.add y H) M)) (Nat.mod (Nat.add x H) M)))⟩) H
  | .geq => Nat.rec (motive := fun _ => BK) ⟨fun a b k => kS i a b fun x y => k (.bool (Nat.ble y x))⟩ (fun _ _ => ⟨fun a b k => kS i a b fun x y => k (.bool (Nat.ble (Nat.mod (Nat.add y H) M) (Nat.mod (Nat.add x H) M)))⟩) H
  | .eql => ⟨fun a b k => kS i a b fun x y => k (.bool (Nat.beq x y))⟩
  | .neq => ⟨fun a b k => kS i a b fun x y => k (.bool (dv (Nat.beq x y)))⟩
def ae (op : BinOp) : Nat → BK
  | 0 => uX 0 256 128 8 op
  | 1 => uX 1 65536 32768 16 op
  | 2 => uX 2 4294967296 2147483648 32 op
  | 3 => uX 3 18446744073709551616 9223372036854775808 64 op
  | 4 => uX 4 256 0 8 op
  | 5 => uX 5 65536 0 16 op
  | 6 => uX 6 4294967296 0 32 op
  | _ => uX 7 18446744073709551616 0 64 op
def ab0 (a b : AV) (f : Nat → Nat → Nat → Nat → aa) : aa := a.ea fun s n => b.ea fun t m => f s n t m
def sE (s n t m : Nat) : Bool := Bool.rec (motive := fun _ => Bool) false (Nat.beq s t) (Nat.beq n m)
def tM (s n : Nat) (k : AV → aa) : aa := aG s fun s => aG n fun n => k (.str s n)
def cx : BinOp → BK
  | .add => ⟨fun a b k => ab0 a b fun s n t m => ar (Nat.ble (Nat.add n m) 9223372036854775807) (tM (Nat.add s (Nat.mul t (Nat.pow 256 n))) (Nat.add n m) k)⟩
  | .eql => ⟨fun a b k => ab0 a b fun s n t m => k (.bool (sE s n t m))⟩
  | .neq => ⟨fun a b k => ab0 a b fun s n t m => k (.bool (dv (sE s n t m)))⟩
  | _ => ⟨fun _ _ _ => .fail⟩
def qA (c : Nat) (a b : AV) (k : Bool → aa) : aa :=
  Nat.rec (motive := fun _ => aa) (a.ay fun x => b.ay fun y => iU (dv (a15 x y)) k)
    (fun c _ => Nat.rec (motive := fun _ => aa) (ab0 a b fun s n t m => iU (sE s n t m) k) (fun i _ => kS i a b fun x y => iU (Nat.beq x y) k) c) c
def nilX (q g : Nat) : Bool := match q with | 0 => Nat.beq g 1 | 1 => Nat.beq g 6 | 2 => Nat.beq g 3 || Nat.beq g 5 | 3 => Nat.beq g 4 | _ => Nat.beq g 12
def a50 (q : Nat) (v : AV) (k : Bool → aa) : aa :=
  v.on (fun _ _ => .fail) (fun _ => .fail) (fun _ _ => .fail) (fun _ _ => ar (Nat.beq q 0) (k false)) (fun _ _ _ _ => ar (Nat.beq q 1) (k false)) (fun _ _ _ _ => ar (Nat.beq q 1) (k false)) (fun _ _ => .fail) (fun _ _ => .fail)
    (fun g _ _ _ _ => when (Nat.beq g (Nat.add q 7)) (k true) (ar (nilX q g) (k false)))
def eqs (l : List Nat) : Row → Row → (Bool → aa) → aa := List.rec (motive := fun _ => Row → Row → (Bool → aa) → aa) (fun _ _ k => k true) (fun c _ ih t u k => Tr.rec (motive := fun _ => aa) .fail (fun a _ r _ _ => Tr.rec (motive := fun _ => aa) .fail (fun b _ s _ _ => qA c a b fun x => ih r s fun y => k (bp x y)) u) t) l
inductive EqP where
  | cell (c : Nat)
  | nil (q : Nat)
  | cells (l : List Nat)
  | no
def eqV (q : EqP) (a b : AV) (k : Bool → aa) : aa :=
  match q with
  | .cell c => qA c a b k
  | .nil q => a50 q a fun x => a50 q b fun y => Bool.rec (motive := fun _ => aa) (ar y (k false)) (iU y k) x
  | .cells l => a.jq fun t m => b.jq fun u n => ar (Nat.beq m l.length) (ar (Nat.beq n l.length) (eqs l t u k))
  | .no => .fail
def wi (q : EqP) : BinOp → BK
  | .eql => ⟨fun a b k => eqV q a b fun r => k (.bool r)⟩
  | .neq => ⟨fun a b k => eqV q a b fun r => k (.bool (dv r))⟩
  | _ => ⟨fun _ _ _ => .fail⟩
structure UnK where
  f : Nat → Nat → Row → (Row → aa) → aa
def unpack (M : Mem) (n : Nat) : UnK := Nat.rec (motive := fun _ => UnK) ⟨fun _ _ d k => k d⟩ (fun _ ih => ⟨fun s p d k => bu 4 (Nat.mod s 256) fun v => M.rs.f d p v fun d => aG (Nat.div s 256) fun s => ih.f s (Nat.succ p) d k⟩) n
def aq (M : Mem) (ag : Bool) (sz : Nat) (v : AV) (hp : Hp) (k : AV → aa) : aa :=
  v.pX (fun b o => hp.use M b (Nat.add o sz) fun _ _ z _ t => rdV M ag sz z t o k) (fun t o n z => ar (Nat.ble sz n) (rdV M ag sz z t o k))
def aH (M : Mem) (sz : Nat) (a v : AV) (hp : Hp) (k : Hp → aa) : aa :=
  a.pX (fun b o => hp.own M b (Nat.add o sz) fun fl z s t => wrV M sz z t o v fun t f => hp.put M b (.row true (bp fl f) z s t) k) (fun _ _ _ _ => .fail)
def putE (M : Mem) (z : Nat) (n : Nat) : PL := Nat.rec (motive := fun _ => PL) ⟨fun _ t _ k => k t⟩ (fun _ ih => ⟨fun l t e k => (aaA z).f l fun a => (a8z z).f l fun r => M.rs.f t e (.agg a z) fun t => ih.f r t (Nat.succ e) k⟩) n
def cF (M : Mem) (N : NK) (v : AV) (z sz : Nat) (hp : Hp) (k : AV → Hp → aa) : aa :=
  when (Nat.beq sz 1) (lP v fun c p => N.f hp (.row true p 1 1 (.nd c .lf .lf)) fun id hp => k (.ptr id 0) hp)
    (v.jq fun l n => ar (Nat.beq n sz) (eM l fun p => when (Nat.beq z sz) (N.f hp (.row true p sz sz (.nd v .lf .lf)) fun id hp => k (.ptr id 0) hp)
      (when (Nat.beq z 1) ((nW M 1 sz).f l .lf 0 fun t => N.f hp (.row true p 1 sz t) fun id hp => k (.ptr id 0) hp)
        (ar (Nat.ble 2 z) (ar (Nat.beq (Nat.mul (Nat.div sz z) z) sz) ((putE M z (Nat.div sz z)).f l .lf 0 fun t => N.f hp (.row true p z sz t) fun id hp => k (.ptr id 0) hp))))))
def my (M : Mem) (z : Nat) (v : AV) (hp : Hp) (k : Row → Nat → Nat → Bool → aa) : aa :=
  v.fg (fun b o n y => ar (Nat.beq y z) (hp.use M b (Nat.add o (Nat.mul n z)) fun _ fl x _ t => ar (Nat.beq x z) (ar (Nat.beq (Nat.mod o z) 0) (aG (Nat.div o z) fun e => k t e n fl)))) (fun t o n y => ar (Nat.beq y z) (k t o n false)) (fun g => ar (Nat.beq g 8 || Nat.beq g 6) (k .lf 0 0 true)) (fun s n => ar (Nat.beq z 1) ((unpack M n).f s 0 .lf fun r => k r 0 n true))
def cz (M : Mem) (q : Nat) (v : AV) (hp : Hp) (k : Nat → aa) : aa :=
  v.on (fun _ _ => .fail) (fun _ => .fail) (fun _ n => ar (Nat.beq q 0) (k n)) (fun _ _ => .fail) (fun _ _ n _ => ar (Nat.beq q 1) (k n)) (fun _ _ n _ => ar (Nat.beq q 1) (k n)) (fun _ _ => .fail) (fun _ _ => .fail)
    (fun g _ a _ _ => when (Nat.beq q 1) (ar (Nat.beq g 8 || Nat.beq g 6) (k 0)) (ar (Nat.beq q 2) (when (Nat.beq g 10) (k 0) (ar (Nat.beq g 4) (hp.get M a fun B => B.q8 fun n _ => k n)))))
def tH (M : Mem) (N : NK) (z : Nat) (u : Row) (p m : Nat) (f : Bool) (hp : Hp) (k : AV → Hp → aa) : aa :=
  ar (Nat.ble m 1073741824) (aG (Nat.mul m z) fun q => when (Nat.beq p 0) (N.f hp (.row true f z q u) fun id hp => k (.ms id 0 m z) hp) ((cp M m).f u p .lf 0 fun r => N.f hp (.row true f z q r) fun id hp => k (.ms id 0 m z) hp))
def jy (M : Mem) (N : NK) (z c n : Nat) (fl : Bool) (r : Row) (u : Row) (p m : Nat) (f : Bool) (hp : Hp) (k : AV → Hp → aa) : aa :=
  (cp M m).f u p r n fun r => hp.put M c .dead fun hp => aG (Nat.add n m) fun q => ar (Nat.ble q 1073741824) (aG (Nat.mul q z) fun s => N.f hp (.row true (bp fl f) z s r) fun id hp => k (.ms id 0 q z) hp)
def cR (M : Mem) (N : NK) (z : Nat) (a b : AV) (hp : Hp) (k : AV → Hp → aa) : aa :=
  my M z b hp fun u p m f =>
    a.fg (fun c o n y => ar (Nat.beq y z) (when (Nat.beq m 0) (k a hp) (hp.own M c (Nat.add o (Nat.mul n z)) fun fl x _ t => ar (Nat.beq x z) (ar (Nat.beq (Nat.mod o z) 0) (when (Nat.beq o 0) (jy M N z c n fl t u p m f hp k) ((cp M n).f t (Nat.div o z) .lf 0 fun r => jy M N z c n fl r u p m f hp k))))))
      (fun _ _ _ _ => ar (Nat.beq m 0) (k a hp)) (fun g => ar (Nat.beq g 8 || Nat.beq g 6) (when (Nat.beq m 0) (k a hp) (tH M N z u p m f hp k))) (fun _ _ => .fail)
def bounds (lo hi mx : Option AV) (n : Nat) (c : Nat → Nat → Bool → aa) : aa :=
  match mx with
  | none => (match hi with
    | none => (match lo with | none => c 0 n false | some v => gY v n fun l => c l n false)
    | some v => gY v n fun h => (match lo with | none => c 0 h false | some v => gY v h fun l => c l h false))
  | some v => gY v n fun m => (match hi with
    | none => .fail
    | some v => gY v m fun h => (match lo with | none => c 0 h (Nat.beq m 0) | some v => gY v h fun l => c l h (Nat.beq m l)))
def eS (z : Nat) (x : AV) (lo hi mx : Option AV) (k : AV → aa) : aa :=
  x.fg (fun b o n y => ar (Nat.beq y z) (bounds lo hi mx n fun l h e => when e (k (.x 6 .lf 0 0 0)) (aG (Nat.add o (Nat.mul l z)) fun o => aG (Nat.sub h l) fun n => k (.ms b o n z))))
    (fun t o n y => ar (Nat.beq y z) (bounds lo hi mx n fun l h e => when e (k (.x 6 .lf 0 0 0)) (aG (Nat.add o l) fun o => aG (Nat.sub h l) fun n => k (.vs t o n z))))
    (fun g => when (Nat.beq g 8) (bounds lo hi mx 0 fun _ _ _ => k (.x 8 .lf 0 0 0)) (ar (Nat.beq g 6) (bounds lo hi mx 0 fun _ _ _ => k (.x 6 .lf 0 0 0))))
    (fun _ _ => .fail)
def dj (x : AV) (lo hi : Option AV) (k : AV → aa) : aa := x.ea fun s n => bounds lo hi none n fun l h _ => tM (Nat.mod (Nat.div s (Nat.pow 256 l)) (Nat.pow 256 (Nat.sub h l))) (Nat.sub h l) k
def indexAddr (z : Nat) (x i : AV) (k : AV → aa) : aa :=
  x.fg (fun b o n _ => fP i n fun j => aG (Nat.add o (Nat.mul j z)) fun p => k (.ptr b p)) (fun t o n y => ar (Nat.beq y z) (fP i n fun j => aG (Nat.mul (Nat.add o j) z) fun p => k (.x 1 t p z z))) (fun _ => .fail) (fun _ _ => .fail)
def kB (z n : Nat) (x i : AV) (k : AV → aa) : aa :=
  x.pX (fun b o => fP i n fun j => aG (Nat.add o (Nat.mul j z)) fun p => k (.ptr b p)) (fun t o m y => fP i n fun j => ar (Nat.ble (Nat.mul (Nat.succ j) z) m) (aG (Nat.add o (Nat.mul j z)) fun p => k (.x 1 t p z y)))
def fieldAddr (off : Nat) (x : AV) (k : AV → aa) : aa :=
  x.pX (fun b o => aG (Nat.add o off) fun p => k (.ptr b p)) (fun t o n y => ar (Nat.ble off n) (aG (Nat.add o off) fun p => aG (Nat.sub n off) fun q => k (.x 1 t p q y)))
def uQ (ag : Bool) (sz off : Nat) (x : AV) (k : AV → aa) : aa :=
  x.jq fun l n => ar (Nat.ble (Nat.add off sz) n) (Bool.rec (motive := fun _ => aa) (ar (Nat.beq sz 1) ((yD off).f l k)) ((a8z off).f l fun l => (aaA sz).f l fun l => k (.agg l sz)) ag)
def vn (off sz : Nat) (l : Row) (v : AV) (k : Row → aa) : aa := when (Nat.beq sz 1) (lP v fun c _ => (yY off).f l c k) (v.jq fun u n => ar (Nat.beq n sz) (Nat.rec (motive := fun _ => Nat → Row → Row → aa) (fun _ _ l => k l) (fun _ ih i u l => Tr.rec (motive := fun _ => aa) .fail (fun c _ r _ _ => (yY i).f l c fun l => ih (Nat.succ i) r l) u) sz off u l))
structure PkK where
  f : Row → Nat → (Nat → aa) → aa
def pack (M : Mem) (n : Nat) : PkK := Nat.rec (motive := fun _ => PkK) ⟨fun _ _ k => k 0⟩ (fun _ ih => ⟨fun t o k => M.rg.f t o fun v => v.bV fun i x => ar (Nat.beq i 4) (ih.f t (Nat.succ o) fun r => aG (Nat.add x (Nat.mul 256 r)) k)⟩) n
structure FK where
  f : Row → Nat → AV → (Nat → aa) → aa → aa
def agY (M : Mem) (c : Nat) (n : Nat) : FK := Nat.rec (motive := fun _ => FK) ⟨fun _ _ _ _ z => z⟩ (fun _ ih => ⟨fun t i key k z => M.rg.f t i fun a => qA c a key fun r => when r (k i) (ih.f t (Nat.succ (Nat.succ i)) key k z)⟩) n
end
end Go.Proofs.YtbamejikafhenaaDoor.Ev
