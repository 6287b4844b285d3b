import Derived.KernelRfl
import GoSem.Core.Program
import GoSem.Core.View
import GoSem.Core.Region
namespace Go.Proofs.YtdlohaedegmiaaaGreatDoor.Ev
noncomputable section
inductive Tr (α : Type) where
  | lf
  | nd (v : α) (l r : Tr α)
inductive AV where
  | int (k n : Nat)
  | bool (b : Bool)
  | str (s n : Nat)
  | ptr (b o : Nat)
  | ms (b o n z : Nat)
  | vs (t : Tr AV) (o n z : Nat)
  | agg (t : Tr AV) (n : Nat)
  | bM (t : Tr AV) (n : Nat)
  | x (g : Nat) (t : Tr AV) (a b c : Nat)
abbrev Row := Tr AV
abbrev AV.uu : AV := .x 0 .lf 0 0 0
inductive Fr where
  | e
  | n (a b c d e f g h : AV) (r : Fr)
inductive aX where
  | dead
  | row (rw fl : Bool) (z sz : Nat) (t : Row)
  | map (n : Nat) (t : Row)
  | loop (st f i : Nat) (fr : Fr)
  | fwd (id : Nat)
structure Hp where
  t : Tr aX
  nx : Nat
  pr : List Nat
  rb : Nat
abbrev Hp.empty : Hp := ⟨.lf, 0, [], 0⟩
inductive ab where
  | ok (fr : Fr) (hp : Hp)
  | exit (n : Nat) (fr : Fr) (hp : Hp)
  | ret (fr : Fr) (hp : Hp)
  | val (v : AV) (hp : Hp)
  | fail
structure Sm where
  run : Row → Fr → Hp → ab
structure GK (α : Type) where
  f : Tr α → Nat → (α → ab) → ab
structure SK (α : Type) where
  f : Tr α → Nat → α → (Tr α → ab) → ab
def gkS {α : Type} (d : α) (ih : GK α) : GK α := ⟨fun t i k => Tr.rec (motive := fun _ => ab) (k d) (fun v l r _ _ => Nat.rec (motive := fun _ => ab) (k v) (fun j _ => Nat.rec (motive := fun _ => ab) (ih.f l (Nat.div j 2) k) (fun _ _ => ih.f r (Nat.div j 2) k) (Nat.mod j 2)) i) t⟩
def gk {α : Type} (d : α) (n : Nat) : GK α := Nat.rec (motive := fun _ => GK α) ⟨fun _ _ _ => .fail⟩ (fun _ ih => gkS d ih) n
def skS {α : Type} (d : α) (ih : SK α) : SK α := ⟨fun t i x k => Tr.rec (motive := fun _ => ab)
      (Nat.rec (motive := fun _ => ab) (k (.nd x .lf .lf)) (fun j _ => Nat.rec (motive := fun _ => ab) (ih.f .lf (Nat.div j 2) x fun l => k (.nd d l .lf)) (fun _ _ => ih.f .lf (Nat.div j 2) x fun r => k (.nd d .lf r)) (Nat.mod j 2)) i)
      (fun v l r _ _ => Nat.rec (motive := fun _ => ab) (k (.nd x l r)) (fun j _ => Nat.rec (motive := fun _ => ab) (ih.f l (Nat.div j 2) x fun l' => k (.nd v l' r)) (fun _ _ => ih.f r (Nat.div j 2) x fun r' => k (.nd v l r')) (Nat.mod j 2)) i) t⟩
def sk {α : Type} (d : α) (n : Nat) : SK α := Nat.rec (motive := fun _ => SK α) ⟨fun _ _ _ _ => .fail⟩ (fun _ ih => skS d ih) n
structure Mem where
  rg : GK AV
  rs : SK AV
  hg : GK aX
  hs : SK aX
def mem : Mem := ⟨gk .uu 24, sk .uu 24, gk .dead 24, sk .dead 24⟩
def aA (n : Nat) (k : Nat → ab) : ab := Nat.rec (motive := fun _ => ab) (k 0) (fun m _ => k (Nat.succ m)) n
def eK (b : Bool) (k : Bool → ab) : ab := Bool.rec (motive := fun _ => ab) (k false) (k true) b
structure Rd where
  get : Row → Fr → (AV → ab) → ab
structure FS where
  f : Fr → AV → (Fr → ab) → ab
def fget : Nat → Rd
  | 0 => ⟨fun _ fr k => Fr.rec (motive := fun _ => ab) .fail (fun a _ _ _ _ _ _ _ _ _ => k a) fr⟩
  | 1 => ⟨fun _ fr k => Fr.rec (motive := fun _ => ab) .fail (fun _ a _ _ _ _ _ _ _ _ => k a) fr⟩
  | 2 => ⟨fun _ fr k => Fr.rec (motive := fun _ => ab) .fail (fun _ _ a _ _ _ _ _ _ _ => k a) fr⟩
  | 3 => ⟨fun _ fr k => Fr.rec (motive := fun _ => ab) .fail (fun _ _ _ a _ _ _ _ _ _ => k a) fr⟩
  | 4 => ⟨fun _ fr k => Fr.rec (motive := fun _ => ab) .fail (fun _ _ _ _ a _ _ _ _ _ => k a) fr⟩
  | 5 => ⟨fun _ fr k => Fr.rec (motive := fun _ => ab) .fail (fun _ _ _ _ _ a _ _ _ _ => k a) fr⟩
  | 6 => ⟨fun _ fr k => Fr.rec (motive := fun _ => ab) .fail (fun _ _ _ _ _ _ a _ _ _ => k a) fr⟩
  | 7 => ⟨fun _ fr k => Fr.rec (motive := fun _ => ab) .fail (fun _ _ _ _ _ _ _ a _ _ => k a) fr⟩
  | n + 8 => let g := fget n; ⟨fun sk fr k => Fr.rec (motive := fun _ => ab) .fail (fun _ _ _ _ _ _ _ _ r _ => g.get sk r k) fr⟩
def yD : Nat → FS
  | 0 => ⟨fun fr x k => Fr.rec (motive := fun _ => ab) .fail (fun _ b c d e f g h r _ => k (.n x b c d e f g h r)) fr⟩
  | 1 => ⟨fun fr x k => Fr.rec (motive := fun _ => ab) .fail (fun a _ c d e f g h r _ => k (.n a x c d e f g h r)) fr⟩
  | 2 => ⟨fun fr x k => Fr.rec (motive := fun _ => ab) .fail (fun a b _ d e f g h r _ => k (.n a b x d e f g h r)) fr⟩
  | 3 => ⟨fun fr x k => Fr.rec (motive := fun _ => ab) .fail (fun a b c _ e f g h r _ => k (.n a b c x e f g h r)) fr⟩
  | 4 => ⟨fun fr x k => Fr.rec (motive := fun _ => ab) .fail (fun a b c d _ f g h r _ => k (.n a b c d x f g h r)) fr⟩
  | 5 => ⟨fun fr x k => Fr.rec (motive := fun _ => ab) .fail (fun a b c d e _ g h r _ => k (.n a b c d e x g h r)) fr⟩
  | 6 => ⟨fun fr x k => Fr.rec (motive := fun _ => ab) .fail (fun a b c d e f _ h r _ => k (.n a b c d e f x h r)) fr⟩
  | 7 => ⟨fun fr x k => Fr.rec (motive := fun _ => ab) .fail (fun a b c d e f g _ r _ => k (.n a b c d e f g x r)) fr⟩
  | n + 8 => let s := yD n; ⟨fun fr x k => Fr.rec (motive := fun _ => ab) .fail (fun a b c d e f g h r _ => s.f r x fun r => k (.n a b c d e f g h r)) fr⟩
def blank : Nat → Fr
  | m + 8 => .n .uu .uu .uu .uu .uu .uu .uu .uu (blank m)
  | _ => .n .uu .uu .uu .uu .uu .uu .uu .uu .e
def vI : Nat → Rd
  | 0 => ⟨fun sk _ k => Tr.rec (motive := fun _ => ab) .fail (fun v _ _ _ _ => k v) sk⟩
  | n + 1 => let g := vI n; ⟨fun sk fr k => Tr.rec (motive := fun _ => ab) .fail (fun _ _ r _ _ => g.get r fr k) sk⟩
section elim
variable (v : AV)
def AV.bo (f : Nat → Nat → ab) : ab := @AV.rec (fun _ => ab) (fun _ => Unit) f (fun _ => .fail) (fun _ _ => .fail) (fun _ _ => .fail) (fun _ _ _ _ => .fail) (fun _ _ _ _ _ => .fail) (fun _ _ _ => .fail) (fun _ _ _ => .fail) (fun _ _ _ _ _ _ => .fail) () (fun _ _ _ _ _ _ => ()) v
def AV.dx (f : Bool → ab) : ab := @AV.rec (fun _ => ab) (fun _ => Unit) (fun _ _ => .fail) f (fun _ _ => .fail) (fun _ _ => .fail) (fun _ _ _ _ => .fail) (fun _ _ _ _ _ => .fail) (fun _ _ _ => .fail) (fun _ _ _ => .fail) (fun _ _ _ _ _ _ => .fail) () (fun _ _ _ _ _ _ => ()) v
def AV.bW (f : Nat → Nat → ab) : ab := @AV.rec (fun _ => ab) (fun _ => Unit) (fun _ _ => .fail) (fun _ => .fail) f (fun _ _ => .fail) (fun _ _ _ _ => .fail) (fun _ _ _ _ _ => .fail) (fun _ _ _ => .fail) (fun _ _ _ => .fail) (fun _ _ _ _ _ _ => .fail) () (fun _ _ _ _ _ _ => ()) v
def AV.iA (f : Row → Nat → ab) : ab := @AV.rec (fun _ => ab) (fun _ => Unit) (fun _ _ => .fail) (fun _ => .fail) (fun _ _ => .fail) (fun _ _ => .fail) (fun _ _ _ _ => .fail) (fun _ _ _ _ _ => .fail) (fun t n _ => f t n) (fun _ _ _ => .fail) (fun _ _ _ _ _ _ => .fail) () (fun _ _ _ _ _ _ => ()) v
def AV.o8 (f : Row → Nat → ab) : ab := @AV.rec (fun _ => ab) (fun _ => Unit) (fun _ _ => .fail) (fun _ => .fail) (fun _ _ => .fail) (fun _ _ => .fail) (fun _ _ _ _ => .fail) (fun _ _ _ _ _ => .fail) (fun _ _ _ => .fail) (fun t n _ => f t n) (fun _ _ _ _ _ _ => .fail) () (fun _ _ _ _ _ _ => ()) v
def AV.tO (f : Nat → Row → Nat → Nat → Nat → ab) : ab := @AV.rec (fun _ => ab) (fun _ => Unit) (fun _ _ => .fail) (fun _ => .fail) (fun _ _ => .fail) (fun _ _ => .fail) (fun _ _ _ _ => .fail) (fun _ _ _ _ _ => .fail) (fun _ _ _ => .fail) (fun _ _ _ => .fail) (fun g t a b c _ => f g t a b c) () (fun _ _ _ _ _ _ => ()) v
def AV.mC (f : Nat → Nat → ab) (g : Row → Nat → Nat → Nat → ab) : ab := @AV.rec (fun _ => ab) (fun _ => Unit) (fun _ _ => .fail) (fun _ => .fail) (fun _ _ => .fail) f (fun _ _ _ _ => .fail) (fun _ _ _ _ _ => .fail) (fun _ _ _ => .fail) (fun _ _ _ => .fail) (fun i t a b c _ => Bool.rec (motive := fun _ => ab) .fail (g t a b c) (Nat.beq i 1)) () (fun _ _ _ _ _ _ => ()) v
def AV.cU (f : Nat → Nat → Nat → Nat → ab) (r : Row → Nat → Nat → Nat → ab) (z : Nat → ab) (s : Nat → Nat → ab) : ab := @AV.rec (fun _ => ab) (fun _ => Unit) (fun _ _ => .fail) (fun _ => .fail) s (fun _ _ => .fail) f (fun t o n z _ => r t o n z) (fun _ _ _ => .fail) (fun _ _ _ => .fail) (fun i _ _ _ _ _ => z i) () (fun _ _ _ _ _ _ => ()) v
def AV.on (i : Nat → Nat → ab) (b : Bool → ab) (s : Nat → Nat → ab) (p : Nat → Nat → ab) (m : Nat → Nat → Nat → Nat → ab) (r : Row → Nat → Nat → Nat → ab) (a : Row → Nat → ab) (t : Row → Nat → ab) (x : Nat → Row → Nat → Nat → Nat → ab) : ab :=
  @AV.rec (fun _ => ab) (fun _ => Unit) i b s p m (fun t o n z _ => r t o n z) (fun t n _ => a t n) (fun u n _ => t u n) (fun g t a b c _ => x g t a b c) () (fun _ _ _ _ _ _ => ()) v
end elim
def when (b : Bool) (yes no : ab) : ab := Bool.rec (motive := fun _ => ab) no yes b
def aq (b : Bool) (yes : ab) : ab := Bool.rec (motive := fun _ => ab) .fail yes b
def aX.o5 (B : aX) (f : Bool → Bool → Nat → Nat → Row → ab) : ab := aX.rec (motive := fun _ => ab) .fail f (fun _ _ => .fail) (fun _ _ _ _ => .fail) (fun _ => .fail) B
def aX.eX (B : aX) (f : Nat → Row → ab) : ab := aX.rec (motive := fun _ => ab) .fail (fun _ _ _ _ _ => .fail) f (fun _ _ _ _ => .fail) (fun _ => .fail) B
def aX.kh (B : aX) (f : Nat → Nat → Nat → Fr → ab) : ab := aX.rec (motive := fun _ => ab) .fail (fun _ _ _ _ _ => .fail) (fun _ _ => .fail) f (fun _ => .fail) B
def Hp.get (M : Mem) (h : Hp) (b : Nat) (k : aX → ab) : ab := Hp.rec (motive := fun _ => ab) (fun t _ _ _ => M.hg.f t b k) h
def Hp.put (M : Mem) (h : Hp) (b : Nat) (B : aX) (k : Hp → ab) : ab := Hp.rec (motive := fun _ => ab) (fun t nx pr rb => M.hs.f t b B fun t' => k ⟨t', nx, pr, rb⟩) h
structure NK where
  f : Hp → aX → (Nat → Hp → ab) → ab
def jr (M : Mem) : NK := ⟨fun h B k => Hp.rec (motive := fun _ => ab) (fun t nx pr rb => aA nx fun nx => M.hs.f t nx B fun t' => k nx ⟨t', Nat.succ nx, pr, rb⟩) h⟩
def vi (M : Mem) (i : Nat) : NK := ⟨fun h B k => Hp.rec (motive := fun _ => ab) (fun t nx pr rb => aA (Nat.add rb i) fun id => M.hs.f t id B fun t' => k id ⟨t', nx, pr, rb⟩) h⟩
def Hp.use (M : Mem) (h : Hp) (b m : Nat) (k : Bool → Bool → Nat → Nat → Row → ab) : ab := h.get M b fun B => B.o5 fun rw fl z s t => aq (Nat.ble m s) (k rw fl z s t)
def kR (b : Nat) (l : List Nat) (k : ab) : ab := List.rec (motive := fun _ => ab) k (fun a _ ih => Bool.rec (motive := fun _ => ab) ih .fail (Nat.beq a b)) l
def Hp.own (M : Mem) (h : Hp) (b m : Nat) (k : Bool → Nat → Nat → Row → ab) : ab := h.use M b m fun rw fl z s t => aq rw (Hp.rec (motive := fun _ => ab) (fun _ _ pr _ => kR b pr (k fl z s t)) h)
structure CK where
  f : Row → Nat → Row → Nat → (Row → ab) → ab
def cp (M : Mem) (n : Nat) : CK := Nat.rec (motive := fun _ => CK) ⟨fun _ _ d _ k => k d⟩ (fun _ ih => ⟨fun s o d p k => M.rg.f s o fun v => M.rs.f d p v fun d' => ih.f s (Nat.succ o) d' (Nat.succ p) k⟩) n
structure RK where
  f : Row → Nat → (Row → ab) → ab
def rep (M : Mem) (v : AV) (m : Nat) : RK := Nat.rec (motive := fun _ => RK) ⟨fun d _ k => k d⟩ (fun _ ih => ⟨fun d p k => M.rs.f d p v fun d' => ih.f d' (Nat.succ p) k⟩) m
def Tr.full {α : Type} (v : α) (n : Nat) : Tr α := Nat.rec (motive := fun _ => Tr α) .lf (fun _ ih => .nd v ih ih) n
def depth (n : Nat) : Nat := Nat.succ (Nat.log2 (Nat.succ n))
def kp (g : Nat) : Bool := Bool.rec (motive := fun _ => Bool) false (Nat.ble g 11) (Nat.ble 7 g)
def AV.plain (v : AV) (k : Bool → ab) : ab := v.on (fun _ _ => k true) (fun _ => k true) (fun _ _ => k true) (fun _ _ => k false) (fun _ _ _ _ => k false) (fun _ _ _ _ => k false) (fun _ _ => k false) (fun _ _ => k false) (fun g _ _ _ _ => eK (kp g) k)
def aW (a b : Bool) : Bool := Bool.rec (motive := fun _ => Bool) false b a
structure LG where
  f : Row → (AV → ab) → ab
structure LS where
  f : Row → AV → (Row → ab) → ab
structure LD where
  f : Row → (Row → ab) → ab
def lget (n : Nat) : LG := Nat.rec (motive := fun _ => LG) ⟨fun t k => Tr.rec (motive := fun _ => ab) .fail (fun v _ _ _ _ => k v) t⟩ (fun _ ih => ⟨fun t k => Tr.rec (motive := fun _ => ab) .fail (fun _ _ r _ _ => ih.f r k) t⟩) n
def zg (n : Nat) : LS := Nat.rec (motive := fun _ => LS) ⟨fun t x k => Tr.rec (motive := fun _ => ab) .fail (fun _ _ r _ _ => k (.nd x .lf r)) t⟩ (fun _ ih => ⟨fun t x k => Tr.rec (motive := fun _ => ab) .fail (fun v _ r _ _ => ih.f r x fun r => k (.nd v .lf r)) t⟩) n
def wO (n : Nat) : LD := Nat.rec (motive := fun _ => LD) ⟨fun t k => k t⟩ (fun _ ih => ⟨fun t k => Tr.rec (motive := fun _ => ab) .fail (fun _ _ r _ _ => ih.f r k) t⟩) n
def a1R (n : Nat) : LD := Nat.rec (motive := fun _ => LD) ⟨fun _ k => k .lf⟩ (fun _ ih => ⟨fun t k => Tr.rec (motive := fun _ => ab) .fail (fun v _ r _ _ => ih.f r fun r => k (.nd v .lf r)) t⟩) n
def gD (l : Row) (k : Bool → ab) : ab := Tr.rec (motive := fun _ => ab) (k true) (fun v _ _ _ ih => v.plain fun b => when b ih (k false)) l
def rdC (M : Mem) (z : Nat) (t : Row) (i : Nat) (k : AV → ab) : ab := when (Nat.beq z 1) (M.rg.f t i k) (M.rg.f t (Nat.div i z) fun v => v.iA fun l _ => (lget (Nat.mod i z)).f l k)
def wrC (M : Mem) (z : Nat) (t : Row) (i : Nat) (c : AV) (k : Row → ab) : ab := when (Nat.beq z 1) (M.rs.f t i c k) (M.rg.f t (Nat.div i z) fun v => v.iA fun l n => (zg (Nat.mod i z)).f l c fun l => M.rs.f t (Nat.div i z) (.agg l n) k)
structure GL where
  f : Row → Nat → (Row → ab) → ab
def getC (M : Mem) (z n : Nat) : GL := Nat.rec (motive := fun _ => GL) ⟨fun _ _ k => k .lf⟩ (fun _ ih => ⟨fun t o k => rdC M z t o fun v => ih.f t (Nat.succ o) fun r => k (.nd v .lf r)⟩) n
structure PL where
  f : Row → Row → Nat → (Row → ab) → ab
def a2d (M : Mem) (z n : Nat) : PL := Nat.rec (motive := fun _ => PL) ⟨fun _ t _ k => k t⟩ (fun _ ih => ⟨fun l t o k => Tr.rec (motive := fun _ => ab) .fail (fun v _ r _ _ => wrC M z t o v fun t => ih.f r t (Nat.succ o) k) l⟩) n
def rdV (M : Mem) (ag : Bool) (sz z : Nat) (t : Row) (o : Nat) (k : AV → ab) : ab :=
  Bool.rec (motive := fun _ => ab) (aq (Nat.beq sz 1) (rdC M z t o k))
    (when (Nat.beq sz 1) (rdC M z t o fun v => k (.agg (.nd v .lf .lf) 1))
      (when (aW (Nat.beq z sz) (Nat.beq (Nat.mod o z) 0)) (M.rg.f t (Nat.div o z) fun v => v.iA fun l n => aq (Nat.beq n sz) (k (.agg l n)))
        ((getC M z sz).f t o fun l => k (.agg l sz)))) ag
def wm (v : AV) (k : AV → Bool → ab) : ab := v.on (fun _ _ => k v true) (fun _ => k v true) (fun _ _ => k v true) (fun _ _ => k v false) (fun _ _ _ _ => k v false) (fun _ _ _ _ => k v false)
  (fun l n => aq (Nat.beq n 1) ((lget 0).f l fun c => c.plain fun p => k c p)) (fun _ _ => .fail) (fun g _ _ _ _ => aq (Nat.ble 1 g) (eK (kp g) fun f => k v f))
def wrV (M : Mem) (sz z : Nat) (t : Row) (o : Nat) (v : AV) (k : Row → Bool → ab) : ab :=
  when (Nat.beq sz 1) (wm v fun c p => wrC M z t o c fun t => k t p)
    (v.iA fun l n => aq (Nat.beq n sz) (aq (Nat.ble 1 sz) (gD l fun p => when (aW (Nat.beq z sz) (Nat.beq (Nat.mod o z) 0)) (M.rs.f t (Nat.div o z) v fun t => k t p) ((a2d M z sz).f l t o fun t => k t p))))
end
end Go.Proofs.YtdlohaedegmiaaaGreatDoor.Ev
namespace Go.Proofs.YtdlohaedegmiaaaGreatDoor.Ev
noncomputable section
def kc (k : IntKind) : Nat := IntKind.rec 0 1 2 3 4 5 6 7 k
def kd : Nat → IntKind | 0 => .i8 | 1 => .i16 | 2 => .i32 | 3 => .i64 | 4 => .u8 | 5 => .u16 | 6 => .u32 | _ => .u64
def md : Nat → Nat | 0 => 256 | 1 => 65536 | 2 => 4294967296 | 3 => 18446744073709551616 | 4 => 256 | 5 => 65536 | 6 => 4294967296 | _ => 18446744073709551616
def hf : Nat → Nat | 0 => 128 | 1 => 32768 | 2 => 2147483648 | 3 => 9223372036854775808 | _ => 0
def yj : Nat := 18446744073709551616
def wd : Nat → Nat | 0 => 8 | 1 => 16 | 2 => 32 | 3 => 64 | 4 => 8 | 5 => 16 | 6 => 32 | _ => 64
def cvt (M H M' n : Nat) : Nat := Nat.rec (motive := fun _ => Nat) (Nat.mod n M') (fun _ _ => Bool.rec (motive := fun _ => Nat) (Nat.mod n M') (Nat.mod (Nat.add n (Nat.sub yj M)) M') (Nat.ble H n)) H
def py (i m : Nat) (k : ab) : ab := when (Nat.ble 4 i) k (aq (Nat.ble (Nat.succ m) (hf i)) k)
def p8 (v : AV) (n : Nat) (k : Nat → ab) : ab := v.bo fun i m => aq (Nat.ble (Nat.succ m) n) (py i m (k m))
def fo (v : AV) (n : Nat) (k : Nat → ab) : ab := v.bo fun i m => aq (Nat.ble m n) (py i m (k m))
structure BK where
  f : AV → AV → (AV → ab) → ab
def eL (i : Nat) (a b : AV) (f : Nat → Nat → ab) : ab := a.bo fun j x => b.bo fun l y => aq (Nat.beq j i) (aq (Nat.beq l i) (f x y))
def bX (i n : Nat) (k : AV → ab) : ab := Nat.rec (motive := fun _ => ab) (k (.int i 0)) (fun m _ => k (.int i (Nat.succ m))) n
def zh (M H n : Nat) (k : Bool → Nat → ab) : ab := Nat.rec (motive := fun _ => ab) (k false n) (fun _ _ => Bool.rec (motive := fun _ => ab) (k false n) (k true (Nat.sub M n)) (Nat.ble H n)) H
def a3e (i M : Nat) (s : Bool) (n : Nat) (k : AV → ab) : ab := Bool.rec (motive := fun _ => ab) (bX i (Nat.mod n M) k) (bX i (Nat.mod (Nat.sub M n) M) k) s
def u6 (a b : Bool) : Bool := Bool.rec (motive := fun _ => Bool) b (Bool.rec (motive := fun _ => Bool) true false b) a
def bZ (a : Bool) : Bool := Bool.rec (motive := fun _ => Bool) true false a
def yu (v : AV) (w : Nat) (far : ab) (k : Nat → ab) : ab := v.bo fun j y => py j y (when (Nat.ble w y) far (k y))
def oZ (i M H w : Nat) : BinOp → BK
  | .add => ⟨fun a b k => eL i a b fun x y => bX i (Nat.mod (Nat.add x y) M) k⟩
  | .sub => ⟨fun a b k => eL i a b fun x y => bX i (Nat.mod (Nat.sub (Nat.add x M) y) M) k⟩
  | .mul => ⟨fun a b k => eL i a b fun x y => bX i (Nat.mod (Nat.mul x y) M) k⟩
  | .quo => ⟨fun a b k => eL i a b fun x y => when (Nat.beq y 0) .fail (zh M H x fun s x => zh M H y fun t y => a3e i M (u6 s t) (Nat.div x y) k)⟩
  | .rem => ⟨fun a b k => eL i a b fun x y => when (Nat.beq y 0) .fail (zh M H x fun s x => zh M H y fun _ y => a3e i M s (Nat.mod x y) k)⟩
  | .and => ⟨fun a b k => eL i a b fun x y => bX i (Nat.land x y) k⟩
  | .or => ⟨fun a b k => eL i a b fun x y => bX i (Nat.lor x y) k⟩
  | .xor => ⟨fun a b k => eL i a b fun x y => bX i (Nat.xor x y) k⟩
  | .andNot => ⟨fun a b k => eL i a b fun x y => bX i (Nat.xor x (Nat.land x y)) k⟩
  | .shl => ⟨fun a b k => a.bo fun j x => aq (Nat.beq j i) (yu b w (k (.int i 0)) fun y => bX i (Nat.mod (Nat.mul x (Nat.pow 2 y)) M) k)⟩
  | .shr => ⟨fun a b k => a.bo fun j x => aq (Nat.beq j i) (Nat.rec (motive := fun _ => ab) (yu b w (k (.int i 0)) fun y => bX i (Nat.div x (Nat.pow 2 y)) k)
      (fun _ _ => when (Nat.ble H x)
        (yu b w (k (.int i (Nat.sub M 1))) fun y => bX i (Nat.sub (Nat.sub M 1) (Nat.div (Nat.sub (Nat.sub M 1) x) (Nat.pow 2 y))) k)
        (yu b w (k (.int i 0)) fun y => bX i (Nat.div x (Nat.pow 2 y)) k)) H)⟩
  | .lss => Nat.rec (motive := fun _ => BK) ⟨fun a b k => eL i a b fun x y => k (.bool (Nat.ble (Nat.succ x) y))⟩ (fun _ _ => ⟨fun a b k => eL i a b fun x y => k (.bool (Nat.ble (Nat.succ (Nat.mod (Nat.add x H) M)) (Nat.mod (Nat.add y H) M)))⟩) H
  | .leq => Nat.rec (motive := fun _ => BK) ⟨fun a b k => eL i a b fun x y => k (.bool (Nat.ble x y))⟩ (fun _ _ => ⟨fun a b k => eL i a b fun x y => k (.bool (Nat.ble (Nat.mod (Nat.add x H) M) (Nat.mod (Nat.add y H) M)))⟩) H
  | .gtr => Nat.rec (motive := fun _ => BK) ⟨fun a b k => eL i a b fun x y => k (.bool (Nat.ble (Nat.succ y) x))⟩ (fun _ _ => ⟨fun a b k => eL i a b fun x y => k (.bool (Nat.ble (Nat.succ (Nat.mod (Nat.add y H) M)) (Nat.mod (Nat.add x H) M)))⟩) H
  | .geq => Nat.rec (motive := fun _ => BK) ⟨fun a b k => eL i a b fun x y => k (.bool (Nat.ble y x))⟩ (fun _ _ => ⟨fun a b k => eL i a b fun x y => k (.bool (Nat.ble (Nat.mod (Nat.add y H) M) (Nat.mod (Nat.add x H) M)))⟩) H
  | .eql => ⟨fun a b k => eL i a b fun x y => k (.bool (Nat.beq x y))⟩
  | .neq => ⟨fun a b k => eL i a b fun x y => k (.bool (bZ (Nat.beq x y)))⟩
def k9 (op : BinOp) : Nat → BK
  | 0 => oZ 0 256 128 8 op
  | 1 => oZ 1 65536 32768 16 op
  | 2 => oZ 2 4294967296 2147483648 32 op
  | 3 => oZ 3 18446744073709551616 9223372036854775808 64 op
  | 4 => oZ 4 256 0 8 op
  | 5 => oZ 5 65536 0 16 op
  | 6 => oZ 6 4294967296 0 32 op
  | _ => oZ 7 18446744073709551616 0 64 op
def a3h (a b : AV) (f : Nat → Nat → Nat → Nat → ab) : ab := a.bW fun s n => b.bW fun t m => f s n t m
def oC (s n t m : Nat) : Bool := Bool.rec (motive := fun _ => Bool) false (Nat.beq s t) (Nat.beq n m)
def strK (s n : Nat) (k : AV → ab) : ab := aA s fun s => aA n fun n => k (.str s n)
def a34 : BinOp → BK
  | .add => ⟨fun a b k => a3h a b fun s n t m => aq (Nat.ble (Nat.add n m) 9223372036854775807) (strK (Nat.add s (Nat.mul t (Nat.pow 256 n))) (Nat.add n m) k)⟩
  | .eql => ⟨fun a b k => a3h a b fun s n t m => k (.bool (oC s n t m))⟩
  | .neq => ⟨fun a b k => a3h a b fun s n t m => k (.bool (bZ (oC s n t m)))⟩
  | _ => ⟨fun _ _ _ => .fail⟩
def jW (c : Nat) (a b : AV) (k : Bool → ab) : ab :=
  Nat.rec (motive := fun _ => ab) (a.dx fun x => b.dx fun y => eK (bZ (u6 x y)) k)
    (fun c _ => Nat.rec (motive := fun _ => ab) (a3h a b fun s n t m => eK (oC s n t m) k) (fun i _ => eL i a b fun x y => eK (Nat.beq x y) k) c) c
def nilX (q g : Nat) : Bool := match q with | 0 => Nat.beq g 1 | 1 => Nat.beq g 6 | 2 => Nat.beq g 3 || Nat.beq g 5 | 3 => Nat.beq g 4 | _ => Nat.beq g 12
def vl (q : Nat) (v : AV) (k : Bool → ab) : ab :=
  v.on (fun _ _ => .fail) (fun _ => .fail) (fun _ _ => .fail) (fun _ _ => aq (Nat.beq q 0) (k false)) (fun _ _ _ _ => aq (Nat.beq q 1) (k false)) (fun _ _ _ _ => aq (Nat.beq q 1) (k false)) (fun _ _ => .fail) (fun _ _ => .fail)
    (fun g _ _ _ _ => when (Nat.beq g (Nat.add q 7)) (k true) (aq (nilX q g) (k false)))
def eqs (l : List Nat) : Row → Row → (Bool → ab) → ab := List.rec (motive := fun _ => Row → Row → (Bool → ab) → ab) (fun _ _ k => k true) (fun c _ ih t u k => Tr.rec (motive := fun _ => ab) .fail (fun a _ r _ _ => Tr.rec (motive := fun _ => ab) .fail (fun b _ s _ _ => jW c a b fun x => ih r s fun y => k (aW x y)) u) t) l
inductive EqP where
  | cell (c : Nat)
  | nil (q : Nat)
  | cells (l : List Nat)
  | no
def eqV (q : EqP) (a b : AV) (k : Bool → ab) : ab :=
  match q with
  | .cell c => jW c a b k
  | .nil q => vl q a fun x => vl q b fun y => Bool.rec (motive := fun _ => ab) (aq y (k false)) (eK y k) x
  | .cells l => a.iA fun t m => b.iA fun u n => aq (Nat.beq m l.length) (aq (Nat.beq n l.length) (eqs l t u k))
  | .no => .fail
def a1W (q : EqP) : BinOp → BK
  | .eql => ⟨fun a b k => eqV q a b fun r => k (.bool r)⟩
  | .neq => ⟨fun a b k => eqV q a b fun r => k (.bool (bZ r))⟩
  | _ => ⟨fun _ _ _ => .fail⟩
structure UnK where
  f : Nat → Nat → Row → (Row → ab) → ab
def unpack (M : Mem) (n : Nat) : UnK := Nat.rec (motive := fun _ => UnK) ⟨fun _ _ d k => k d⟩ (fun _ ih => ⟨fun s p d k => bX 4 (Nat.mod s 256) fun v => M.rs.f d p v fun d => aA (Nat.div s 256) fun s => ih.f s (Nat.succ p) d k⟩) n
def rU (M : Mem) (ag : Bool) (sz : Nat) (v : AV) (hp : Hp) (k : AV → ab) : ab :=
  v.mC (fun b o => hp.use M b (Nat.add o sz) fun _ _ z _ t => rdV M ag sz z t o k) (fun t o n z => aq (Nat.ble sz n) (rdV M ag sz z t o k))
def pJ (M : Mem) (sz : Nat) (a v : AV) (hp : Hp) (k : Hp → ab) : ab :=
  a.mC (fun b o => hp.own M b (Nat.add o sz) fun fl z s t => wrV M sz z t o v fun t f => hp.put M b (.row true (aW fl f) z s t) k) (fun _ _ _ _ => .fail)
def putE (M : Mem) (z : Nat) (n : Nat) : PL := Nat.rec (motive := fun _ => PL) ⟨fun _ t _ k => k t⟩ (fun _ ih => ⟨fun l t e k => (a1R z).f l fun a => (wO z).f l fun r => M.rs.f t e (.agg a z) fun t => ih.f r t (Nat.succ e) k⟩) n
def zU (M : Mem) (N : NK) (v : AV) (z sz : Nat) (hp : Hp) (k : AV → Hp → ab) : ab :=
  when (Nat.beq sz 1) (wm v fun c p => N.f hp (.row true p 1 1 (.nd c .lf .lf)) fun id hp => k (.ptr id 0) hp)
    (v.iA fun l n => aq (Nat.beq n sz) (gD l fun p => when (Nat.beq z sz) (N.f hp (.row true p sz sz (.nd v .lf .lf)) fun id hp => k (.ptr id 0) hp)
      (when (Nat.beq z 1) ((a2d M 1 sz).f l .lf 0 fun t => N.f hp (.row true p 1 sz t) fun id hp => k (.ptr id 0) hp)
        (aq (Nat.ble 2 z) (aq (Nat.beq (Nat.mul (Nat.div sz z) z) sz) ((putE M z (Nat.div sz z)).f l .lf 0 fun t => N.f hp (.row true p z sz t) fun id hp => k (.ptr id 0) hp))))))
def vz (M : Mem) (z : Nat) (v : AV) (hp : Hp) (k : Row → Nat → Nat → Bool → ab) : ab :=
  v.cU (fun b o n y => aq (Nat.beq y z) (hp.use M b (Nat.add o (Nat.mul n z)) fun _ fl x _ t => aq (Nat.beq x z) (aq (Nat.beq (Nat.mod o z) 0) (aA (Nat.div o z) fun e => k t e n fl)))) (fun t o n y => aq (Nat.beq y z) (k t o n false)) (fun g => aq (Nat.beq g 8 || Nat.beq g 6) (k .lf 0 0 true)) (fun s n => aq (Nat.beq z 1) ((unpack M n).f s 0 .lf fun r => k r 0 n true))
def lenK (M : Mem) (q : Nat) (v : AV) (hp : Hp) (k : Nat → ab) : ab :=
  v.on (fun _ _ => .fail) (fun _ => .fail) (fun _ n => aq (Nat.beq q 0) (k n)) (fun _ _ => .fail) (fun _ _ n _ => aq (Nat.beq q 1) (k n)) (fun _ _ n _ => aq (Nat.beq q 1) (k n)) (fun _ _ => .fail) (fun _ _ => .fail)
    (fun g _ a _ _ => when (Nat.beq q 1) (aq (Nat.beq g 8 || Nat.beq g 6) (k 0)) (aq (Nat.beq q 2) (when (Nat.beq g 10) (k 0) (aq (Nat.beq g 4) (hp.get M a fun B => B.eX fun n _ => k n)))))
def yi (M : Mem) (N : NK) (z : Nat) (u : Row) (p m : Nat) (f : Bool) (hp : Hp) (k : AV → Hp → ab) : ab :=
  aq (Nat.ble m 1073741824) (aA (Nat.mul m z) fun q => when (Nat.beq p 0) (N.f hp (.row true f z q u) fun id hp => k (.ms id 0 m z) hp) ((cp M m).f u p .lf 0 fun r => N.f hp (.row true f z q r) fun id hp => k (.ms id 0 m z) hp))
def lC (M : Mem) (N : NK) (z c n : Nat) (fl : Bool) (r : Row) (u : Row) (p m : Nat) (f : Bool) (hp : Hp) (k : AV → Hp → ab) : ab :=
  (cp M m).f u p r n fun r => hp.put M c .dead fun hp => aA (Nat.add n m) fun q => aq (Nat.ble q 1073741824) (aA (Nat.mul q z) fun s => N.f hp (.row true (aW fl f) z s r) fun id hp => k (.ms id 0 q z) hp)
def wi (M : Mem) (N : NK) (z : Nat) (a b : AV) (hp : Hp) (k : AV → Hp → ab) : ab :=
  vz M z b hp fun u p m f =>
    a.cU (fun c o n y => aq (Nat.beq y z) (when (Nat.beq m 0) (k a hp) (hp.own M c (Nat.add o (Nat.mul n z)) fun fl x _ t => aq (Nat.beq x z) (aq (Nat.beq (Nat.mod o z) 0) (when (Nat.beq o 0) (lC M N z c n fl t u p m f hp k) ((cp M n).f t (Nat.div o z) .lf 0 fun r => lC M N z c n fl r u p m f hp k))))))
      (fun _ _ _ _ => aq (Nat.beq m 0) (k a hp)) (fun g => aq (Nat.beq g 8 || Nat.beq g 6) (when (Nat.beq m 0) (k a hp) (yi M N z u p m f hp k))) (fun _ _ => .fail)
def a5z (M : Mem) (z : Nat) (a b : AV) (hp : Hp) (k : Nat → Hp → ab) : ab :=
  vz M z b hp fun u p m f =>
    a.cU (fun c o n y => aq (Nat.beq y z) (aA (Bool.rec (motive := fun _ => Nat) m n (Nat.ble n m)) fun q => when (Nat.beq q 0) (k 0 hp) (hp.own M c (Nat.add o (Nat.mul q z)) fun fl x s t => aq (Nat.beq x z) (aq (Nat.beq (Nat.mod o z) 0) ((cp M q).f u p t (Nat.div o z) fun r => hp.put M c (.row true (aW fl f) z s r) fun hp => k q hp)))))
      (fun _ _ _ _ => .fail) (fun g => aq (Nat.beq g 8 || Nat.beq g 6) (k 0 hp)) (fun _ _ => .fail)
def a04 (M : Mem) (z : Nat) (zero : AV) (a : AV) (hp : Hp) (k : Hp → ab) : ab :=
  a.cU (fun c o n y => aq (Nat.beq y z) (when (Nat.beq n 0) (k hp) (hp.own M c (Nat.add o (Nat.mul n z)) fun _ x s t => aq (Nat.beq x z) (aq (Nat.beq (Nat.mod o z) 0) ((rep M zero n).f t (Nat.div o z) fun r => hp.put M c (.row true false z s r) k)))))
    (fun _ _ _ _ => .fail) (fun g => aq (Nat.beq g 8 || Nat.beq g 6) (k hp)) (fun _ _ => .fail)
def bounds (lo hi mx : Option AV) (n : Nat) (c : Nat → Nat → Bool → ab) : ab :=
  match mx with
  | none => (match hi with
    | none => (match lo with | none => c 0 n false | some v => fo v n fun l => c l n false)
    | some v => fo v n fun h => (match lo with | none => c 0 h false | some v => fo v h fun l => c l h false))
  | some v => fo v n fun m => (match hi with
    | none => .fail
    | some v => fo v m fun h => (match lo with | none => c 0 h (Nat.beq m 0) | some v => fo v h fun l => c l h (Nat.beq m l)))
def fI (z : Nat) (x : AV) (lo hi mx : Option AV) (k : AV → ab) : ab :=
  x.cU (fun b o n y => aq (Nat.beq y z) (bounds lo hi mx n fun l h e => when e (k (.x 6 .lf 0 0 0)) (aA (Nat.add o (Nat.mul l z)) fun o => aA (Nat.sub h l) fun n => k (.ms b o n z))))
    (fun t o n y => aq (Nat.beq y z) (bounds lo hi mx n fun l h e => when e (k (.x 6 .lf 0 0 0)) (aA (Nat.add o l) fun o => aA (Nat.sub h l) fun n => k (.vs t o n z))))
    (fun g => when (Nat.beq g 8) (bounds lo hi mx 0 fun _ _ _ => k (.x 8 .lf 0 0 0)) (aq (Nat.beq g 6) (bounds lo hi mx 0 fun _ _ _ => k (.x 6 .lf 0 0 0))))
    (fun _ _ => .fail)
def vC (x : AV) (lo hi : Option AV) (k : AV → ab) : ab := x.bW fun s n => bounds lo hi none n fun l h _ => strK (Nat.mod (Nat.div s (Nat.pow 256 l)) (Nat.pow 256 (Nat.sub h l))) (Nat.sub h l) k
def indexAddr (z : Nat) (x i : AV) (k : AV → ab) : ab :=
  x.cU (fun b o n _ => p8 i n fun j => aA (Nat.add o (Nat.mul j z)) fun p => k (.ptr b p)) (fun t o n y => aq (Nat.beq y z) (p8 i n fun j => aA (Nat.mul (Nat.add o j) z) fun p => k (.x 1 t p z z))) (fun _ => .fail) (fun _ _ => .fail)
def rE (z n : Nat) (x i : AV) (k : AV → ab) : ab :=
  x.mC (fun b o => p8 i n fun j => aA (Nat.add o (Nat.mul j z)) fun p => k (.ptr b p)) (fun t o m y => p8 i n fun j => aq (Nat.ble (Nat.mul (Nat.succ j) z) m) (aA (Nat.add o (Nat.mul j z)) fun p => k (.x 1 t p z y)))
def fieldAddr (off : Nat) (x : AV) (k : AV → ab) : ab :=
  x.mC (fun b o => aA (Nat.add o off) fun p => k (.ptr b p)) (fun t o n y => aq (Nat.ble off n) (aA (Nat.add o off) fun p => aA (Nat.sub n off) fun q => k (.x 1 t p q y)))
def og (ag : Bool) (sz off : Nat) (x : AV) (k : AV → ab) : ab :=
  x.iA fun l n => aq (Nat.ble (Nat.add off sz) n) (Bool.rec (motive := fun _ => ab) (aq (Nat.beq sz 1) ((lget off).f l k)) ((wO off).f l fun l => (a1R sz).f l fun l => k (.agg l sz)) ag)
def setP (off sz : Nat) (l : Row) (v : AV) (k : Row → ab) : ab := when (Nat.beq sz 1) (wm v fun c _ => (zg off).f l c k) (v.iA fun u n => aq (Nat.beq n sz) (Nat.rec (motive := fun _ => Nat → Row → Row → ab) (fun _ _ l => k l) (fun _ ih i u l => Tr.rec (motive := fun _ => ab) .fail (fun c _ r _ _ => (zg i).f l c fun l => ih (Nat.succ i) r l) u) sz off u l))
structure PkK where
  f : Row → Nat → (Nat → ab) → ab
def pack (M : Mem) (n : Nat) : PkK := Nat.rec (motive := fun _ => PkK) ⟨fun _ _ k => k 0⟩ (fun _ ih => ⟨fun t o k => M.rg.f t o fun v => v.bo fun i x => aq (Nat.beq i 4) (ih.f t (Nat.succ o) fun r => aA (Nat.add x (Nat.mul 256 r)) k)⟩) n
def isZb (a : AV) : Bool := AV.casesOn (motive_1 := fun _ => Bool) a (fun k n => aW (Nat.beq k 4) (Nat.beq n 0)) (fun _ => false) (fun _ _ => false) (fun _ _ => false) (fun _ _ _ _ => false) (fun _ _ _ _ => false) (fun _ _ => false) (fun _ _ => false) (fun _ _ _ _ _ => false)
def zT (d : Nat) : Row → Bool := Nat.rec (motive := fun _ => Row → Bool) (fun _ => true) (fun _ ih t => Tr.casesOn (motive := fun _ => Bool) t false fun v l r => aW (isZb v) (aW (ih l) (ih r))) d
def sc (M : Mem) (n : Nat) : PkK := ⟨fun t o k => Bool.rec (motive := fun _ => ab) ((pack M n).f t o k) (k 0) (aW (Nat.ble 1000 n) (aW (Nat.beq o 0) (zT (depth n) t)))⟩
structure FK where
  f : Row → Nat → AV → (Nat → ab) → ab → ab
def jh (M : Mem) (c : Nat) (n : Nat) : FK := Nat.rec (motive := fun _ => FK) ⟨fun _ _ _ _ z => z⟩ (fun _ ih => ⟨fun t i key k z => M.rg.f t i fun a => jW c a key fun r => when r (k i) (ih.f t (Nat.succ (Nat.succ i)) key k z)⟩) n
end
end Go.Proofs.YtdlohaedegmiaaaGreatDoor.Ev
