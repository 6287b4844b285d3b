import Derived.Test.YtdlohaedegmiaaaGreatDoorEvAA
import GoSem.Core.Layout
import Derived.Test.YtdlohaedegmiaaaGreatDoorProg
namespace Go.Proofs.YtdlohaedegmiaaaGreatDoor.Ev
noncomputable section
structure ZK where
  f : Hp → AV → (AV → Hp → ab) → ab
structure ZR where
  f : Hp → Row → Nat → Row → Nat → (Row → Hp → ab) → ab
def zr (M : Mem) (z : ZK) (n : Nat) : ZR := Nat.rec (motive := fun _ => ZR) ⟨fun hp _ _ d _ k => k d hp⟩ (fun _ ih => ⟨fun hp t o d p k => M.rg.f t o fun a => z.f hp a fun a hp => M.rs.f d p a fun d => ih.f hp t (Nat.succ o) d (Nat.succ p) k⟩) n
def zl (z : ZK) (l : Row) : Hp → (Row → Hp → ab) → ab := Tr.rec (motive := fun _ => Hp → (Row → Hp → ab) → ab) (fun hp k => k .lf hp) (fun v _ _ _ ih hp k => z.f hp v fun v hp => ih hp fun r hp => k (.nd v .lf r) hp) l
def frzS (M : Mem) (z : ZK) : ZK := ⟨fun hp v k => v.on (fun _ _ => k v hp) (fun _ => k v hp) (fun _ _ => k v hp) (fun _ _ => .fail)
    (fun b o n y => hp.use M b (Nat.add o (Nat.mul n y)) fun _ fl x s t => aq (Nat.beq x y) (aq (Nat.beq (Nat.mod o y) 0) (hp.put M b (.row false fl y s t) fun hp => when fl (aA (Nat.div o y) fun e => k (.vs t e n y) hp) ((zr M z n).f hp t (Nat.div o y) .lf 0 fun r hp => k (.vs r 0 n y) hp))))
    (fun _ _ _ _ => k v hp)
    (fun l n => gD l fun p => when p (k v hp) (zl z l hp fun r hp => k (.agg r n) hp))
    (fun t n => zl z t hp fun r hp => k (.bM r n) hp)
    (fun g t a b c => when (Nat.ble 6 g) (when (Nat.beq g 12) (zl z t hp fun r hp => k (.x g r a b c) hp) (k v hp)) (when (Nat.beq g 1) (k v hp) (aq (Nat.beq g 3) (zl z t hp fun r hp => k (.x g r a b c) hp))))⟩
def frz (M : Mem) (m : Nat) : ZK := Nat.rec (motive := fun _ => ZK) ⟨fun _ _ _ => .fail⟩ (fun _ ih => frzS M ih) m
structure IK where
  f : AV → Hp → Hp → Bool → (AV → Hp → Hp → Bool → ab) → ab
structure IR where
  f : Row → Nat → Row → Nat → Hp → Hp → Bool → (Row → Hp → Hp → Bool → ab) → ab
def ir (M : Mem) (z : IK) (n : Nat) : IR := Nat.rec (motive := fun _ => IR) ⟨fun _ _ d _ hc hp b k => k d hc hp b⟩ (fun _ ih => ⟨fun t o d p hc hp b k => M.rg.f t o fun a => z.f a hc hp b fun a hc hp b => M.rs.f d p a fun d => ih.f t (Nat.succ o) d (Nat.succ p) hc hp b k⟩) n
def il (z : IK) (l : Row) : Hp → Hp → Bool → (Row → Hp → Hp → Bool → ab) → ab := Tr.rec (motive := fun _ => Hp → Hp → Bool → (Row → Hp → Hp → Bool → ab) → ab) (fun hc hp b k => k .lf hc hp b) (fun v _ _ _ ih hc hp b k => z.f v hc hp b fun v hc hp b => ih hc hp b fun r hc hp b => k (.nd v .lf r) hc hp b) l
def ib (M : Mem) (z : IK) (c : Nat) (hc hp : Hp) (b : Bool) (k : Nat → Hp → Hp → Bool → ab) : ab :=
  hc.get M c fun B => aX.rec (motive := fun _ => ab) .fail
    (fun rw fl y s t => when fl (hc.put M c (.fwd hp.nx) fun hc => (jr M).f hp (.row rw fl y s t) fun id hp => k id hc hp (Bool.rec (motive := fun _ => Bool) true b rw))
      ((ir M z (Nat.div s y)).f t 0 .lf 0 hc hp b fun r hc hp b => hc.get M c fun B2 => B2.o5 fun _ _ _ _ _ => aA (Nat.mul (Nat.div s y) y) fun s => hc.put M c (.fwd hp.nx) fun hc => (jr M).f hp (.row rw false y s r) fun id hp => k id hc hp (Bool.rec (motive := fun _ => Bool) true b rw)))
    (fun n t => (ir M z (Nat.mul 2 n)).f t 0 .lf 0 hc hp b fun r hc hp b => hc.get M c fun B2 => B2.eX fun _ _ => hc.put M c (.fwd hp.nx) fun hc => (jr M).f hp (.map n r) fun id hp => k id hc hp b)
    (fun _ _ _ _ => .fail) (fun id => k id hc hp b) B
def impS (M : Mem) (z : IK) : IK := ⟨fun v hc hp b k => v.on (fun _ _ => k v hc hp b) (fun _ => k v hc hp b) (fun _ _ => k v hc hp b)
    (fun c o => ib M z c hc hp b fun id hc hp b => k (.ptr id o) hc hp b)
    (fun c o n y => ib M z c hc hp b fun id hc hp b => k (.ms id o n y) hc hp b)
    (fun _ _ _ _ => k v hc hp true)
    (fun l n => gD l fun p => when p (k v hc hp b) (il z l hc hp b fun r hc hp b => k (.agg r n) hc hp b))
    (fun t n => il z t hc hp b fun r hc hp b => k (.bM r n) hc hp b)
    (fun g t a p c => when (Nat.ble 6 g) (when (Nat.beq g 12) (il z t hc hp b fun r hc hp b => k (.x g r a p c) hc hp b) (k v hc hp b))
      (when (Nat.beq g 1) (k v hc hp true) (when (Nat.beq g 3) (il z t hc hp b fun r hc hp b => k (.x g r a p c) hc hp b) (aq (Nat.beq g 4) (ib M z a hc hp b fun id hc hp b => k (.x 4 .lf id p c) hc hp b)))))⟩
def imp (M : Mem) (m : Nat) : IK := Nat.rec (motive := fun _ => IK) ⟨fun _ _ _ _ _ => .fail⟩ (fun _ ih => impS M ih) m
structure ao where
  f : Row → Hp → ab
def gG : ao := ⟨fun _ _ => .fail⟩
def a4t (M : Mem) (hp : Hp) (l : Row) (yes : Row → Hp → ab) (no : ab) : ab :=
  ab.rec (motive := fun _ => ab) (fun _ _ => no) (fun _ _ _ => no) (fun _ _ => no) (fun v h => v.o8 fun r _ => yes r h) no (zl (frz M 24) l hp fun r h => .val (.bM r 0) h)
def mG (M : Mem) (F : ao) (a : Row) (hp ho : Hp) (k : AV → Hp → ab) : ab :=
  ab.rec (motive := fun _ => ab) (fun _ _ => .fail) (fun _ _ _ => .fail) (fun _ _ => .fail)
    (fun v hc => (imp M 24).f v hc hp false fun v' _ hp' b => when b ((imp M 24).f v hc ho false fun v _ hp _ => k v hp) (k v' hp')) .fail (F.f a .empty)
def cj (F : ao) (a : Row) (hp : Hp) (k : AV → Hp → ab) : ab :=
  ab.rec (motive := fun _ => ab) (fun _ _ => .fail) (fun _ _ _ => .fail) (fun _ _ => .fail)
    (fun v h => Hp.rec (motive := fun _ => ab) (fun t nx _ _ => Hp.rec (motive := fun _ => ab) (fun _ _ pr rb => k v ⟨t, nx, pr, rb⟩) hp) h) .fail (F.f a hp)
def nH (M : Mem) (sh : Bool) (F : ao) (a : Row) (hp : Hp) (k : AV → Hp → ab) : ab :=
  Bool.rec (motive := fun _ => ab) (a4t M hp a (fun a ho => mG M F a hp ho k) (cj F a hp k)) (cj F a hp k) sh
structure cq where
  f : Fr → Row → Hp → ab
  g : Fr → Hp → ab
def fQ : cq := ⟨fun _ _ _ => .fail, fun _ _ => .fail⟩
inductive Src where
  | c (v : AV)
  | s (l : Nat)
  | f (i : Nat)
  | no
structure G where
  d : Nat
  m : List (Nat × Src)
abbrev G.e : G := ⟨0, []⟩
structure Cx where
  M : Mem
  P : Program
  fn : List (Nat × ao)
  sh : List Nat
  yl : List (Nat × Nat × cq)
  gl : List (Nat × AV)
  vars : List Nat
  nt : Nat
  self : Nat
def idxOf (t : Nat) (l : List Nat) : Nat → Src := List.rec (motive := fun _ => Nat → Src) (fun _ => .no) (fun a _ ih i => Bool.rec (motive := fun _ => Src) (ih (Nat.succ i)) (.f i) (Nat.beq a t)) l
def look (C : Cx) (g : G) (t : Nat) : Src := List.rec (motive := fun _ => Src) (idxOf t C.vars 0) (fun a _ ih => Bool.rec (motive := fun _ => Src) ih a.2 (Nat.beq a.1 t)) g.m
def isVar (C : Cx) (t : Nat) : Bool := List.rec (motive := fun _ => Bool) false (fun a _ ih => Bool.rec (motive := fun _ => Bool) ih true (Nat.beq a t)) C.vars
def zj (d : Nat) (s : Src) : Rd := match s with
  | .c v => ⟨fun _ _ k => k v⟩
  | .s l => Bool.rec (motive := fun _ => Rd) ⟨fun _ _ _ => .fail⟩ (vI (Nat.sub (Nat.sub d 1) l)) (Nat.ble (Nat.succ l) d)
  | .f i => fget i
  | .no => ⟨fun _ _ _ => .fail⟩
def aI (l : List UInt8) : Nat := List.rec (motive := fun _ => Nat) 0 (fun b _ ih => Nat.add b.toNat (Nat.mul 256 ih)) l
def lm : Nat → Nat | 0 => 128 | 1 => 32768 | 2 => 2147483648 | 3 => 9223372036854775808 | 4 => 256 | 5 => 65536 | 6 => 4294967296 | _ => 18446744073709551616
def ay : Value → AV
  | .int k n => Int.rec (motive := fun _ => AV) (fun m => Bool.rec (motive := fun _ => AV) .uu (.int (kc k) m) (Nat.ble (Nat.succ m) (lm (kc k)))) (fun m => Bool.rec (motive := fun _ => AV) .uu (.int (kc k) (Nat.sub (md (kc k)) (Nat.succ m))) (Nat.ble (Nat.succ m) (hf (kc k)))) n
  | .bool b => .bool b
  | .string s => .str (aI s.data.toList) s.size
  | .pointer none => .x 7 .lf 0 0 0
  | .slice none n c => Bool.rec (motive := fun _ => AV) .uu (.x 8 .lf 0 0 0) (aW (Nat.beq n 0) (Nat.beq c 0))
  | .nilFunc => .x 9 .lf 0 0 0
  | .map none => .x 10 .lf 0 0 0
  | .nilIface => .x 11 .lf 0 0 0
  | _ => .uu
def ke (l : List Value) : Row := List.rec (motive := fun _ => Row) .lf (fun v _ ih => .nd (ay v) .lf ih) l
def bm (v : AV) : Bool := match v with | .x 0 _ _ _ _ => false | _ => true
def allKnown (l : List Value) : Bool := List.rec (motive := fun _ => Bool) true (fun v _ ih => aW (bm (ay v)) ih) l
def bT : Value → AV
  | .agg cs => Bool.rec (motive := fun _ => AV) .uu (.agg (ke cs.toList) cs.size) (allKnown cs.toList)
  | v => ay v
def src (C : Cx) (g : G) : Operand → Src
  | .tmp t => look C g t
  | .const v => .c (bT v)
  | .func f => .c (.x 3 .lf f 0 0)
  | .global n => List.rec (motive := fun _ => Src) .no (fun a _ ih => Bool.rec (motive := fun _ => Src) ih (.c a.2) (Nat.beq a.1 n)) C.gl
def cH (C : Cx) (g : G) (x : Operand) : Rd := zj g.d (src C g x)
structure Pt where
  f : Sm → Row → Fr → Hp → AV → ab
def adM : Pt := ⟨fun k sk fr hp _ => k.run sk fr hp⟩
def ptTmp : Pt := ⟨fun k sk fr hp v => k.run (.nd v .lf sk) fr hp⟩
def ptVar (i : Nat) : Pt := let s := yD i; ⟨fun k sk fr hp v => s.f fr v fun fr => k.run sk fr hp⟩
def bG (d i : Nat) (l : List (Nat × Src)) : List (Nat × Src) := List.rec (motive := fun _ => List (Nat × Src)) []
  (fun a _ ih => Bool.rec (motive := fun _ => List (Nat × Src)) (Src.rec (motive := fun _ => List (Nat × Src)) (fun _ => a :: ih) (fun _ => a :: ih) (fun j => Bool.rec (motive := fun _ => List (Nat × Src)) (a :: ih) ih (Nat.beq j i)) ih a.2) ih (Nat.beq a.1 d)) l
def dropKey (d : Nat) (l : List (Nat × Src)) : List (Nat × Src) := List.rec (motive := fun _ => List (Nat × Src)) [] (fun a _ ih => Bool.rec (motive := fun _ => List (Nat × Src)) (a :: ih) ih (Nat.beq a.1 d)) l
structure PG where
  p : Pt
  g : G
def a2c : Pt := ⟨fun _ _ _ _ _ => .fail⟩
def dst (C : Cx) (g : G) : Option Nat → PG
  | none => ⟨adM, g⟩
  | some d => Bool.rec (motive := fun _ => PG) ⟨a2c, g⟩ (dstOf C g d) (Nat.ble (Nat.succ d) C.nt)
where dstOf (C : Cx) (g : G) (d : Nat) : PG := match idxOf d C.vars 0 with
    | .f i => ⟨ptVar i, ⟨g.d, bG d i g.m⟩⟩
    | _ => ⟨ptTmp, ⟨Nat.succ g.d, (d, .s g.d) :: dropKey d g.m⟩⟩
def aP : Sm := ⟨fun _ _ _ => .fail⟩
def bp : AV := .bM .lf 0
section ops
variable (C : Cx) (g : G) (P : Pt) (N : NK) (k : Sm)
def jj {α : Type} (l : List α) : Nat → Option α := List.rec (motive := fun _ => Nat → Option α) (fun _ => none) (fun a _ ih i => Nat.rec (motive := fun _ => Option α) (some a) (fun j _ => ih j) i) l
def bC (P : Program) (t : TypeId) : Option TypeInfo := jj P.types.toList t
def a7V (P : Program) (_ : TypeInfo) : TypeDesc → Option TypeDesc
  | .named _ u => Option.rec (motive := fun _ => Option TypeDesc) none (fun j => some j.desc) (bC P u)
  | d => some d
def bj (P : Program) (t : TypeId) : Option TypeDesc := Option.rec (motive := fun _ => Option TypeDesc) none (fun i => a7V P i i.desc) (bC P t)
def aC (P : Program) (t : TypeId) : Nat := Option.rec (motive := fun _ => Nat) 0 (fun i => i.size) (bC P t)
def isAgg (P : Program) (t : TypeId) : Bool := match bj P t with | some (.struct _) | some (.array ..) => true | _ => false
def slT (P : Program) (t : TypeId) : Option TypeId := match bj P t with | some (.slice e) => some e | _ => none
def rH (P : Program) (t : TypeId) : Bool := match bj P t with | some (.int .u8) => true | _ => false
def known (P : Program) (t : TypeId) : Bool := Option.rec (motive := fun _ => Bool) false (fun _ => true) (bj P t)
def iff (b : Bool) (s : Sm) : Sm := Bool.rec (motive := fun _ => Sm) aP s b
def allF (f : Field → Bool) (l : List Field) : Bool := List.rec (motive := fun _ => Bool) true (fun a _ ih => aW (f a) ih) l
def allP (n : Nat) (l : List (Nat × Operand)) : Bool := List.rec (motive := fun _ => Bool) true (fun a _ ih => aW (Nat.ble (Nat.succ a.1) n) ih) l
def qT (o z : Nat → Nat) (n : Nat) (l : List (Nat × Operand)) : Bool := List.rec (motive := fun _ => Bool) true (fun a _ ih => aW (Nat.ble (Nat.add (o a.1) (z a.1)) n) ih) l
def a0I (P : Program) (t : TypeId) : Nat := match bj P t with | some (.array _ e) => aC P e | _ => aC P t
def aU (P : Program) (t : TypeId) : AV := match (bC P t).bind (·.zero) with | some v => bT v | none => .uu
def bE (P : Program) (t : TypeId) : AV := match aU P t with | .agg (.nd v _ .lf) 1 => v | v => v
def tK (P : Program) (t : TypeId) : Row := match aU P t with | .agg l _ => l | v => .nd v .lf .lf
def bq (P : Program) (t : TypeId) (z : Nat) : Bool := match aU P t with | .agg _ n => Nat.beq n z | .x 0 _ _ _ _ => false | _ => Nat.beq z 1
def bytesOf (P : Program) (t : TypeId) : Nat := Option.rec (motive := fun _ => Nat) 0 (fun i => i.bytes) (bC P t)
def bP (fs : Array Field) (f : Nat) : Nat := Option.rec (motive := fun _ => Nat) 0 (fun x => x.offset) (jj fs.toList f)
def cd (fs : Array Field) (f : Nat) : TypeId := Option.rec (motive := fun _ => TypeId) 0 (fun x => x.type) (jj fs.toList f)
def c1 (x : Operand) (f : AV → (AV → ab) → ab) : Sm := let a := cH C g x; ⟨fun sk fr hp => a.get sk fr fun a => f a fun v => P.f k sk fr hp v⟩
def c1h (x : Operand) (f : AV → Hp → (AV → Hp → ab) → ab) : Sm := let a := cH C g x; ⟨fun sk fr hp => a.get sk fr fun a => f a hp fun v hp => P.f k sk fr hp v⟩
def c2 (x y : Operand) (f : AV → AV → (AV → ab) → ab) : Sm := let a := cH C g x; let b := cH C g y; ⟨fun sk fr hp => a.get sk fr fun a => b.get sk fr fun b => f a b fun v => P.f k sk fr hp v⟩
def c2h (x y : Operand) (f : AV → AV → Hp → (AV → Hp → ab) → ab) : Sm := let a := cH C g x; let b := cH C g y; ⟨fun sk fr hp => a.get sk fr fun a => b.get sk fr fun b => f a b hp fun v hp => P.f k sk fr hp v⟩
def a5x (x : Operand) : Sm := let a := cH C g x; ⟨fun sk fr hp => a.get sk fr fun v => P.f k sk fr hp v⟩
def a5y (c x y : Operand) : Sm := let c := cH C g c; let a := cH C g x; let b := cH C g y; ⟨fun sk fr hp => c.get sk fr fun v => v.dx fun t => when t (a.get sk fr fun v => P.f k sk fr hp v) (b.get sk fr fun v => P.f k sk fr hp v)⟩
def zX (t : TypeId) (a : Rd) : Sm := let n := aC C.P t; let z := a0I C.P t; ⟨fun sk fr hp => a.get sk fr fun a => zU C.M N a z n hp fun v hp => P.f k sk fr hp v⟩
structure Part where
  o : Nat
  sz : Nat
  x : Rd
structure UK where
  f : Row → Fr → Row → (Row → ab) → ab
def uk (l : List Part) : UK := List.rec (motive := fun _ => UK) ⟨fun _ _ t k => k t⟩ (fun p _ ih => ⟨fun sk fr t k => p.x.get sk fr fun v => setP p.o p.sz t v fun t => ih.f sk fr t k⟩) l
def partsOf (ps : List (Nat × Operand)) (o z : Nat → Nat) : List Part := List.rec (motive := fun _ => List Part) [] (fun p _ ih => ⟨o p.1, z p.1, cH C g p.2⟩ :: ih) ps
def zV (q : UK) (z : Row) (n : Nat) : Sm := ⟨fun sk fr hp => q.f sk fr z fun l => P.f k sk fr hp (.agg l n)⟩
def u9 (t : TypeId) (ps : Array (Nat × Operand)) : Sm :=
  match bj C.P t with
  | some (.struct fs) => iff (aW (bq C.P t (aC C.P t)) (aW (allF (fun f => known C.P f.type) fs.toList) (aW (allP fs.size ps.toList) (qT (bP fs) (fun i => aC C.P (cd fs i)) (aC C.P t) ps.toList)))) <| zV P k (uk (partsOf C g ps.toList (bP fs) fun i => aC C.P (cd fs i))) (tK C.P t) (aC C.P t)
  | some (.array _ e) => iff (aW (bq C.P t (aC C.P t)) (aW (known C.P e) (qT (fun i => i * aC C.P e) (fun _ => aC C.P e) (aC C.P t) ps.toList))) <| zV P k (uk (partsOf C g ps.toList (fun i => i * aC C.P e) fun _ => aC C.P e)) (tK C.P t) (aC C.P t)
  | _ => aP
structure VK where
  f : Row → Fr → Row → Bool → (Row → Bool → ab) → ab
def vk (M : Mem) (z : Nat) (l : List Part) : VK := List.rec (motive := fun _ => VK) ⟨fun _ _ t f k => k t f⟩ (fun p _ ih => ⟨fun sk fr t f k => p.x.get sk fr fun v => wrV M z z t p.o v fun t b => ih.f sk fr t (aW f b) k⟩) l
def gj (t : TypeId) (len : Nat) (ps : Array (Nat × Operand)) : Sm := match slT C.P t with
  | none => aP
  | some e => let z := aC C.P e; let q := vk C.M z (partsOf C g ps.toList (fun i => i * z) fun _ => z); let r0 := Tr.full (bE C.P e) (depth len); let s := len * z
    iff (aW (Nat.ble 1 z) (aW (bq C.P e z) (aW (Nat.ble s 16777216) (qT (fun i => i * z) (fun _ => z) s ps.toList)))) ⟨fun sk fr hp => q.f sk fr r0 true fun r f => N.f hp (.row true f z s r) fun id hp => P.f k sk fr hp (.ms id 0 len z)⟩
def a00 (t : TypeId) (x : Operand) : Sm := let z := aC C.P t; let ag := isAgg C.P t; let a := cH C g x; Bool.rec (motive := fun _ => Sm) aP ⟨fun sk fr hp => a.get sk fr fun a => rU C.M ag z a hp fun v => P.f k sk fr hp v⟩ (known C.P t)
def a01 (t : TypeId) (x y : Operand) : Sm := let z := aC C.P t; let a := cH C g x; let b := cH C g y; iff (Nat.ble 1 z) ⟨fun sk fr hp => a.get sk fr fun a => b.get sk fr fun v => pJ C.M z a v hp fun hp => P.f k sk fr hp bp⟩
def nF (x : Operand) : Sm := c1 C g P k x fun v k => v.on (fun _ _ => .fail) (fun _ => .fail) (fun _ _ => .fail) (fun _ _ => k v) (fun _ _ _ _ => .fail) (fun _ _ _ _ => .fail) (fun _ _ => .fail) (fun _ _ => .fail) (fun g _ _ _ _ => aq (Nat.beq g 1 || Nat.beq g 3 || Nat.beq g 5 || Nat.beq g 12) (k v))
def nc (a b : List Nat) : List Nat := List.rec (motive := fun _ => List Nat) b (fun x _ ih => x :: ih) a
def ct (f : TypeId → Option (List Nat)) (l : List Field) : Nat → Option (List Nat) := List.rec (motive := fun _ => Nat → Option (List Nat)) (fun _ => some [])
  (fun x _ ih o => Bool.rec (motive := fun _ => Option (List Nat)) none (Option.rec (motive := fun _ => Option (List Nat)) none (fun a => Option.rec (motive := fun _ => Option (List Nat)) none (fun b => some (nc a b)) (ih (o + a.length))) (f x.type)) (aW (Nat.beq x.offset o) (bZ (x.name == "_")))) l
def pB (n : Nat) (a : List Nat) : List Nat := Nat.rec (motive := fun _ => List Nat) [] (fun _ ih => nc a ih) n
def chkO (n : Nat) (o : Option (List Nat)) : Option (List Nat) := Option.rec (motive := fun _ => Option (List Nat)) none (fun l => Bool.rec (motive := fun _ => Option (List Nat)) none (some l) (Nat.beq l.length n)) o
def fU (P : Program) (d : Nat) : TypeId → Option (List Nat) := Nat.rec (motive := fun _ => TypeId → Option (List Nat)) (fun _ => none) (fun _ ih t => chkO (aC P t) (match bj P t with
    | some .bool => some [0]
    | some .string => some [1]
    | some (.int q) => some [kc q + 2]
    | some (.struct fs) => Bool.rec (motive := fun _ => Option (List Nat)) none (ct ih fs.toList 0) (bZ (P.stoodInHeld t))
    | some (.array n e) => Option.rec (motive := fun _ => Option (List Nat)) none (fun a => some (pB n a)) (ih e)
    | _ => none)) d
def gx (P : Program) (t : TypeId) : EqP := match bj P t with
  | some .bool => .cell 0
  | some (.pointer _) => .nil 0
  | some (.slice _) => .nil 1
  | some (.func ..) => .nil 2
  | some (.map ..) => .nil 3
  | some (.struct _) | some (.array ..) => Option.rec (motive := fun _ => EqP) .no (fun l => .cells l) (fU P 20 t)
  | _ => .no
def fA (P : Program) (t : TypeId) : Option Nat := match bj P t with
  | some .bool => some 0
  | some .string => some 1
  | some (.int q) => some (kc q + 2)
  | _ => none
def pb : Operand → Bool
  | .const .nilIface => true
  | _ => false
def isIface (P : Program) (t : TypeId) : Bool := match bj P t with | some (.interface _) => true | _ => false
def zW (op : BinOp) (x : Operand) : Sm := match op with
  | .eql => c1 C g P k x fun a k => vl 4 a fun b => k (.bool b)
  | .neq => c1 C g P k x fun a k => vl 4 a fun b => k (.bool (bZ b))
  | _ => aP
def wk (op : BinOp) (t : TypeId) (x y : Operand) : Sm :=
  let f : BK := match bj C.P t with
    | some (.int ik) => k9 op (kc ik)
    | some .string => a34 op
    | _ => a1W (gx C.P t) op
  let a := cH C g x; let b := cH C g y; ⟨fun sk fr hp => a.get sk fr fun a => b.get sk fr fun b => f.f a b fun v => P.f k sk fr hp v⟩
def cBin (op : BinOp) (t : TypeId) (x y : Operand) : Sm := Bool.rec (motive := fun _ => Sm) (wk C g P k op t x y) (zW C g P k op x) (aW (isIface C.P t) (pb y))
def cUn (op : UnOp) (x : Operand) : Sm := match op with
  | .neg => c1 C g P k x fun a k => a.bo fun i n => bX i (Nat.mod (Nat.sub (md i) n) (md i)) k
  | .xor => c1 C g P k x fun a k => a.bo fun i n => bX i (Nat.sub (Nat.sub (md i) 1) n) k
  | .not => c1 C g P k x fun a k => a.dx fun b => k (.bool (bZ b))
  | _ => aP
def zZ (s d : TypeId) (x : Operand) : Sm := match bj C.P s, bj C.P d with
  | some (.int _), some (.int kk) => let j := kc kk; let M' := md j; c1 C g P k x fun a k => a.bo fun i n => bX j (cvt (md i) (hf i) M' n) k
  | some .string, some .string => c1 C g P k x fun a k => a.bW fun s n => k (.str s n)
  | some .string, some (.slice e) => iff (rH C.P e) <| c1h C g P k x fun a hp k => a.bW fun s n => (unpack C.M n).f s 0 .lf fun r => N.f hp (.row true true 1 n r) fun id hp => k (.ms id 0 n 1) hp
  | some (.slice e), some .string => iff (rH C.P e) <| c1h C g P k x fun a hp k => a.cU (fun _ _ _ _ => vz C.M 1 a hp fun t o n _ => (sc C.M n).f t o fun s => k (.str s n) hp) (fun _ _ _ _ => vz C.M 1 a hp fun t o n _ => (sc C.M n).f t o fun s => k (.str s n) hp) (fun g => aq (Nat.beq g 8 || Nat.beq g 6) (k (.str 0 0) hp)) (fun _ _ => .fail)
  | some (.slice _), some (.slice e) => iff (aW (Nat.beq s d) (rH C.P e)) <| c1h C g P k x fun a hp k => a.cU (fun b _ n _ => aq (Nat.ble 1 n) (hp.own C.M b 0 fun _ _ _ _ => k a hp)) (fun _ _ _ _ => .fail) (fun _ => .fail) (fun _ _ => .fail)
  | _, _ => aP
structure AK where
  f : Row → Fr → (Row → ab) → ab
def ak (l : List Rd) : AK := List.rec (motive := fun _ => AK) ⟨fun _ _ k => k .lf⟩ (fun x _ ih => ⟨fun sk fr k => x.get sk fr fun v => ih.f sk fr fun r => k (.nd v .lf r)⟩) l
def a5w (f : FuncId) (a b : Array Operand) : Sm := let q := ak ((a.toList ++ b.toList).map (cH C g)); let n := a.size; let m := b.size; ⟨fun sk fr hp => q.f sk fr fun l => P.f k sk fr hp (.x 3 l f n m)⟩
def nE (t : TypeId) (x : Operand) : Sm := let a := cH C g x; iff (match bj C.P t with | some (.map ..) => true | _ => false) ⟨fun sk fr hp => a.get sk fr fun v => v.bo fun _ _ => N.f hp (.map 0 .lf) fun id hp => P.f k sk fr hp (.x 4 .lf id 0 0)⟩
def qH : Sm := ⟨fun sk fr hp => N.f hp (.map 0 .lf) fun id hp => P.f k sk fr hp (.x 4 .lf id 0 0)⟩
def iG (t : TypeId) (x y : Operand) : Sm := match slT C.P t with
  | none => aP
  | some e => let z := aC C.P e; let v := bE C.P e; iff (aW (Nat.ble 1 z) (aW (bq C.P e z) (Nat.ble (bytesOf C.P e) 65536))) <| c2h C g P k x y fun a b hp k => fo b 1073741824 fun m => fo a m fun n => aA (Nat.mul n z) fun s => N.f hp (.row true true z s (Tr.full v (depth n))) fun id hp => k (.ms id 0 n z) hp
structure OK where
  f : Row → Fr → (Option AV → ab) → ab
def fF (x : Option Operand) : OK := match x with | none => ⟨fun _ _ k => k none⟩ | some x => let a := cH C g x; ⟨fun sk fr k => a.get sk fr fun v => k (some v)⟩
def uc (t : TypeId) (x : Operand) (lo hi mx : Option Operand) : Sm :=
  let a := cH C g x; let l := fF C g lo; let h := fF C g hi; let m := fF C g mx
  match bj C.P t with
  | some (.array n e) => let z := aC C.P e; iff (Nat.ble 1 z) ⟨fun sk fr hp => a.get sk fr fun v => l.f sk fr fun l => h.f sk fr fun h => m.f sk fr fun m => v.mC (fun b o => hp.use C.M b (Nat.add o (Nat.mul n z)) fun _ _ _ _ _ => fI z (.ms b o n z) l h m fun v => P.f k sk fr hp v) (fun t o c y => aq (Nat.beq y z) (aq (Nat.beq (Nat.mod o z) 0) (aq (Nat.ble (Nat.mul n z) c) (fI z (.vs t (Nat.div o z) n z) l h m fun v => P.f k sk fr hp v))))⟩
  | some (.slice e) => let z := aC C.P e; iff (Nat.ble 1 z) ⟨fun sk fr hp => a.get sk fr fun v => l.f sk fr fun l => h.f sk fr fun h => m.f sk fr fun m => fI z v l h m fun v => P.f k sk fr hp v⟩
  | some .string => iff (Option.rec (motive := fun _ => Bool) true (fun _ => false) mx) ⟨fun sk fr hp => a.get sk fr fun v => l.f sk fr fun l => h.f sk fr fun h => vC v l h fun v => P.f k sk fr hp v⟩
  | _ => aP
def iE (t : TypeId) (x : Operand) (f : Nat) : Sm := match bj C.P t with
  | some (.struct fs) => let off := bP fs f; let a := cH C g x; iff (aW (Nat.ble (Nat.succ f) fs.size) (Nat.ble 1 (aC C.P (cd fs f)))) ⟨fun sk fr hp => a.get sk fr fun a => fieldAddr off a fun v => P.f k sk fr hp v⟩
  | _ => aP
def ua (t : TypeId) (x : Operand) (f : Nat) : Sm := match bj C.P t with
  | some (.struct fs) => let off := bP fs f; let z := aC C.P (cd fs f); let ag := isAgg C.P (cd fs f); iff (aW (Nat.ble (Nat.succ f) fs.size) (known C.P (cd fs f))) <| c1 C g P k x fun a k => og ag z off a k
  | _ => aP
def iF (t : TypeId) (x i : Operand) : Sm := match bj C.P t with
  | some (.array n e) => let z := aC C.P e; iff (Nat.ble 1 z) <| c2 C g P k x i fun a j k => rE z n a j k
  | some (.slice e) => let z := aC C.P e; iff (Nat.ble 1 z) <| c2 C g P k x i fun a j k => indexAddr z a j k
  | _ => aP
def ub (t : TypeId) (x i : Operand) : Sm := match bj C.P t with
  | some (.array n e) => let z := aC C.P e; let ag := isAgg C.P e; iff (known C.P e) <| c2 C g P k x i fun a j k => p8 j n fun j => og ag z (Nat.mul j z) a k
  | some .string => c2 C g P k x i fun a j k => a.bW fun s n => p8 j n fun j => bX 4 (Nat.mod (Nat.div s (Nat.pow 256 j)) 256) k
  | _ => aP
def oN (t : TypeId) (x i : Operand) (ok : Bool) : Sm := match bj C.P t with
  | some (.map kt e) => match fA C.P kt with
   | none => aP
   | some c => let zv := aU C.P e; c2h C g P k x i fun m key hp k => m.tO fun q _ b _ _ => aq (Nat.beq q 4) (hp.get C.M b fun B => B.eX fun n t =>
      (jh C.M c n).f t 0 key (fun j => C.M.rg.f t (Nat.succ j) fun v => when ok (k (.bM (.nd v .lf (.nd (.bool true) .lf .lf)) 2) hp) (k v hp)) (aq (bm zv) (when ok (k (.bM (.nd zv .lf (.nd (.bool false) .lf .lf)) 2) hp) (k zv hp))))
  | _ => aP
def eC (b : Nat) (hp : Hp) (k : ab) : ab := Hp.rec (motive := fun _ => ab) (fun _ _ pr _ => kR b pr k) hp
def iH (t : TypeId) (m key x : Operand) : Sm := let a := cH C g m; let b := cH C g key; let y := cH C g x
  match bj C.P t with
  | some (.map kt _) => match fA C.P kt with
   | none => aP
   | some c => ⟨fun sk fr hp => a.get sk fr fun m => b.get sk fr fun key => y.get sk fr fun v => m.tO fun q _ b _ _ => aq (Nat.beq q 4) (eC b hp (hp.get C.M b fun B => B.eX fun n t =>
      (jh C.M c n).f t 0 key (fun j => C.M.rs.f t (Nat.succ j) v fun t => hp.put C.M b (.map n t) fun hp => P.f k sk fr hp bp)
        (C.M.rs.f t (Nat.mul 2 n) key fun t => C.M.rs.f t (Nat.succ (Nat.mul 2 n)) v fun t => hp.put C.M b (.map (Nat.succ n) t) fun hp => P.f k sk fr hp bp)))⟩
  | _ => aP
def qG (x : Operand) (i : Nat) : Sm := let a := cH C g x; let e := vI i; ⟨fun sk fr hp => a.get sk fr fun v => v.o8 fun t _ => e.get t fr fun v => P.f k sk fr hp v⟩
def oW (f : Nat) : ao := List.rec (motive := fun _ => ao) gG (fun a _ ih => Bool.rec (motive := fun _ => ao) ih a.2 (Nat.beq a.1 f)) C.fn
def a3d (f : Nat) : Bool := List.rec (motive := fun _ => Bool) false (fun a _ ih => Bool.rec (motive := fun _ => Bool) ih true (Nat.beq a f)) C.sh
def a3r (f i : Nat) : cq := List.rec (motive := fun _ => cq) fQ (fun a _ ih => Bool.rec (motive := fun _ => cq) ih (Bool.rec (motive := fun _ => cq) ih a.2.2 (Nat.beq a.2.1 i)) (Nat.beq a.1 f)) C.yl
def n3 (M : Mem) (b : Nat) (pr : List Nat) (rb st : Nat) (v : Bool) (h : Hp) (k : AV → Hp → ab) : ab :=
  h.get M b fun B => B.kh fun s f i fr => aq (Nat.beq s 1) (h.put M b (.loop st f i fr) fun h => Hp.rec (motive := fun _ => ab) (fun t nx _ _ => k (.bool v) ⟨t, nx, pr, rb⟩) h)
def yc (M : Mem) (b : Nat) (pr : List Nat) (rb : Nat) (Y : cq) (fr1 : Fr) (h1 : Hp) (k : AV → Hp → ab) : ab :=
  h1.get M b fun B => B.kh fun st f i fr => aq (Nat.beq st 0) (h1.put M b (.loop 1 f i fr) fun h2 =>
    ab.rec (motive := fun _ => ab) (fun _ h3 => n3 M b pr rb 0 true h3 k) (fun n _ h3 => n3 M b pr rb (Nat.add n 3) false h3 k) (fun _ h3 => n3 M b pr rb 2 false h3 k) (fun _ _ => .fail) .fail (Y.g fr1 h2))
def a3s (b : Nat) (l : Row) (hp : Hp) (k : AV → Hp → ab) : ab :=
  eC b hp (hp.get C.M b fun B => B.kh fun st f i fr => aq (Nat.beq st 0)
    (ab.rec (motive := fun _ => ab) (fun fr1 h1 => Hp.rec (motive := fun _ => ab) (fun _ _ pr rb => yc C.M b pr rb (a3r C f i) fr1 h1 k) hp) (fun _ _ _ => .fail) (fun _ _ => .fail) (fun _ _ => .fail) .fail ((a3r C f i).f fr l hp)))
def app (a b : Row) (k : Row → ab) : ab := Tr.rec (motive := fun _ => (Row → ab) → ab) (fun k => k b) (fun v _ _ _ ih k => ih fun r => k (.nd v .lf r)) a k
def kD (n : Nat) (a b : Row) (k : Row → ab) : ab := Nat.rec (motive := fun _ => Row → (Row → ab) → ab) (fun a k => app b a k) (fun _ ih a k => Tr.rec (motive := fun _ => ab) .fail (fun v _ r _ _ => ih r fun r => k (.nd v .lf r)) a) n a k
def zY (f : Operand) (aas : Array Operand) : Sm := let q := ak (aas.toList.map (cH C g)); match f with
  | .func f => let F := oW C f; let sh := a3d C f; ⟨fun sk fr hp => q.f sk fr fun l => nH C.M sh F l hp fun v hp => P.f k sk fr hp v⟩
  | f => let a := cH C g f; ⟨fun sk fr hp => a.get sk fr fun fv => fv.tO fun i u f n _ => q.f sk fr fun l => when (Nat.beq i 3) (kD n u l fun l => nH C.M (a3d C f) (oW C f) l hp fun v hp => P.f k sk fr hp v)
      (aq (Nat.beq i 5) (a3s C f l hp fun v hp => P.f k sk fr hp v))⟩
def cLen (q : Nat) (x : Operand) : Sm := let a := cH C g x; ⟨fun sk fr hp => a.get sk fr fun a => lenK C.M q a hp fun n => aq (Nat.ble n 9223372036854775807) (P.f k sk fr hp (.int 3 n))⟩
def a0W (t : TypeId) : Bool := match bj C.P t with | some (.slice _) | some .string => true | _ => false
def lG (b : Builtin) (ts : List TypeId) (aas : List Operand) : Sm :=
  match b, ts, aas with
  | .len, t :: _, [x] => (match bj C.P t with
    | some (.array n _) => iff (Nat.ble n 9223372036854775807) ⟨fun sk fr hp => P.f k sk fr hp (.int 3 n)⟩
    | some .string => cLen C g P k 0 x
    | some (.slice _) => cLen C g P k 1 x
    | some (.map ..) => cLen C g P k 2 x
    | _ => aP)
  | .append, [t, u], [x, y] => (match slT C.P t with
    | some e => let z := aC C.P e; iff (aW (Nat.ble (bytesOf C.P e) 65536) (aW (Nat.ble 1 z) (bq C.P e z))) <| (match bj C.P u with
      | some (.int _) => let v := bE C.P e; c2h C g P k x y fun a b hp k => a.tO fun q _ _ _ _ => aq (Nat.beq q 8) (fo b 1073741824 fun n => aq (Nat.ble 1 n) (aA (Nat.mul n z) fun s => N.f hp (.row true true z s (Tr.full v (depth n))) fun id hp => k (.ms id 0 n z) hp))
      | _ => iff (a0W C u) <| c2h C g P k x y fun a b hp k => wi C.M N z a b hp k)
    | none => aP)
  | .cap, t :: _, [x] => (match slT C.P t with
    | some _ => c1 C g P k x fun a k => a.tO fun q _ _ _ _ => aq (Nat.beq q 8 || Nat.beq q 6) (k (.int 3 0))
    | none => aP)
  | .copy, t :: _, [x, y] => (match slT C.P t with
    | some e => let z := aC C.P e; iff (Nat.ble 1 z) <| c2h C g P k x y fun a b hp k => a5z C.M z a b hp fun n hp => aq (Nat.ble n 9223372036854775807) (k (.int 3 n) hp)
    | none => aP)
  | .clear, t :: _, [x] => (match slT C.P t with
    | some e => let z := aC C.P e; let zr := bE C.P e; iff (aW (Nat.ble 1 z) (bq C.P e z)) <| c1h C g P k x fun a hp k => a04 C.M z zr a hp fun hp => k bp hp
    | none => aP)
  | .min, _, [x, y] => c2 C g P k x y fun a b k => a.bo fun i m => b.bo fun j n => aq (Nat.beq i j) (when (Nat.ble (Nat.mod (Nat.add m (hf i)) (md i)) (Nat.mod (Nat.add n (hf i)) (md i))) (k (.int i m)) (k (.int i n)))
  | .max, _, [x, y] => c2 C g P k x y fun a b k => a.bo fun i m => b.bo fun j n => aq (Nat.beq i j) (when (Nat.ble (Nat.mod (Nat.add m (hf i)) (md i)) (Nat.mod (Nat.add n (hf i)) (md i))) (k (.int i n)) (k (.int i m)))
  | _, _, _ => aP
end ops
def er (C : Cx) (g : G) (P : Pt) (N : NK) (k : Sm) (op : Op) : Sm := match op with
  | .move x | .assign x => a5x C g P k x
  | .pick c a b => a5y C g P k c a b
  | .alloc t => zX C P N k t ⟨fun _ _ k => k (aU C.P t)⟩
  | .box t x => zX C P N k t (cH C g x)
  | .build t ps => u9 C g P k t ps
  | .buildSlice t n ps => gj C g P N k t n ps
  | .load t a => a00 C g P k t a
  | .store t a x => a01 C g P k t a x
  | .nilCheck x => nF C g P k x
  | .binOp op t x y _ => cBin C g P k op t x y
  | .unOp op _ x => cUn C g P k op x
  | .convert s d x => zZ C g P N k s d x
  | .makeFunc (.func f) a b => a5w C g P k f a b
  | .makeMap _ none => qH P N k
  | .makeMap t (some x) => nE C g P N k t x
  | .makeSlice t a b => iG C g P N k t a b
  | .slice t x lo hi mx => uc C g P k t x lo hi mx
  | .fieldAddr t x f => iE C g P k t x f
  | .field t x f => ua C g P k t x f
  | .indexAddr t x i => iF C g P k t x i
  | .index t x i => ub C g P k t x i
  | .lookup t x i ok => oN C g P k t x i ok
  | .mapUpdate t m key x => iH C g P k t m key x
  | .extract x i => qG C g P k x i
  | .call c => (match c.callee with
    | .builtin b => lG C g P N k b c.argTypes.toList c.args.toList
    | .value f => zY C g P k f c.args
    | .invoke .. => aP)
  | _ => aP
def guarded (C : Cx) (g : G) (P : Pt) (k s : Sm) (t : Option Nat) (want : Bool) : Sm := match t with
  | none => aP
  | some t => let a := zj g.d (look C g t)
    ⟨fun sk fr hp => a.get sk fr fun v => v.on (fun _ _ => .fail) (fun b => when (u6 b want) (P.f k sk fr hp bp) (s.run sk fr hp)) (fun _ _ => .fail) (fun _ _ => .fail) (fun _ _ _ _ => .fail) (fun _ _ _ _ => .fail) (fun _ _ => .fail) (fun _ _ => P.f k sk fr hp bp) (fun _ _ _ _ _ => .fail)⟩
def writes (t : Nat) (l : List Oper) : Bool := List.rec (motive := fun _ => Bool) false (fun o _ ih => Option.rec (motive := fun _ => Bool) ih (fun d => Bool.rec (motive := fun _ => Bool) ih true (Nat.beq d t)) o.dst) l
def alias (C : Cx) (g : G) (o : Oper) (rest : List Oper) : Option (Nat × Src) :=
  match o.guard, o.dst, o.op with
  | none, some d, .move x | none, some d, .assign x => if isVar C d then none else
    (match src C g x with
     | .c v => some (d, .c v)
     | .s l => some (d, .s l)
     | .f i => (match x with | .tmp t => if writes t rest then none else some (d, .f i) | _ => none)
     | .no => none)
  | _, _, _ => none
def denG (C : Cx) (ops : Array Oper) (g : G) (N : NK) (o : Oper) (rest : List Oper) (k : G → Sm) : Sm :=
  match alias C g o rest with
  | some a => iff (Nat.ble (Nat.succ a.1) C.nt) (k ⟨g.d, a :: dropKey a.1 g.m⟩)
  | none => (match dst C g o.dst with
    | ⟨P, g'⟩ => (match o.guard with
      | none => er C g P N (k g') o.op
      | some (j, want) => guarded C g P (k g') (er C g P N (k g') o.op) ((ops[j]?).bind (·.dst)) want))
def gu (C : Cx) (ops : Array Oper) (l : List Oper) (g : G) (k : G → Sm) : Sm :=
  List.rec (motive := fun _ => G → Sm) k (fun o r ih g => denG C ops g (jr C.M) o r ih) l g
end
end Go.Proofs.YtdlohaedegmiaaaGreatDoor.Ev
namespace Go.Proofs.YtdlohaedegmiaaaGreatDoor.Ev
noncomputable section
def l9 {α : Type} (d : α) (l : List α) : Nat → α := List.rec (motive := fun _ => Nat → α) (fun _ => d) (fun a _ ih i => Nat.rec (motive := fun _ => α) a (fun j _ => ih j) i) l
def bit (m i : Nat) : Bool := Nat.beq (Nat.mod (Nat.div m (Nat.pow 2 i)) 2) 1
def az (a b : Bool) : Bool := Bool.rec (motive := fun _ => Bool) false b a
def kZ {α : Type} (f : α → Bool) (l : List α) : Bool := List.rec (motive := fun _ => Bool) true (fun a _ ih => az (f a) ih) l
def cr (e : Edge) : Bool := Region.binds .any e
def cB (l : List Nat) (n : Nat) (es : List Edge) : Nat := List.rec (motive := fun _ => Nat) 0 (fun e _ ih => Bool.rec (motive := fun _ => Nat) ih (Nat.lor ih (Nat.lor (Nat.pow 2 e.on) (l9 0 l (Nat.sub (Nat.sub n 1) e.on)))) (cr e)) es
def cC (ops : List Oper) : List Nat → Nat → List Nat := List.rec (motive := fun _ => List Nat → Nat → List Nat) (fun acc _ => acc) (fun o _ ih acc n => ih (cB acc n o.after.toList :: acc) (Nat.succ n)) ops
def fZ (ops : List Oper) : Nat → Bool := List.rec (motive := fun _ => Nat → Bool) (fun _ => true) (fun o _ ih n => az (kZ (fun e => Bool.rec (motive := fun _ => Bool) true (Nat.ble (Nat.succ e.on) n) (cr e)) o.after.toList) (ih (Nat.succ n))) ops
def cls (P : Program) : Op → Nat
  | .move .. | .pick .. | .assign .. | .fieldAddr .. | .field .. | .indexAddr .. | .index .. | .unOp .. | .binOp .. | .extract .. | .makeFunc .. | .nilCheck .. | .build .. => 0
  | .slice t .. => match bj P t with | some (.array ..) => 1 | _ => 0
  | .load .. | .lookup .. => 1
  | .alloc .. | .box .. | .buildSlice .. | .makeSlice .. | .makeMap .. => 2
  | .convert s d _ => match bj P s, bj P d with
    | some (.slice _), some .string => 1
    | some .string, some (.slice _) => 2
    | some (.slice _), some (.slice _) => 6
    | _, _ => 0
  | .store .. | .mapUpdate .. => 3
  | .call c => match c.callee with
    | .builtin .len => (match bj P (c.argTypes.getD 0 0) with | some (.map ..) => 1 | _ => 0)
    | .builtin .min | .builtin .max => 0
    | .builtin .append | .builtin .copy | .builtin .clear => 3
    | .builtin _ => 6
    | .invoke .. => 6
    | .value _ => 3
  | _ => 6
def spot : Op → Option Operand
  | .load _ a => some a
  | .lookup _ a _ _ => some a
  | .convert _ _ x => some x
  | .slice _ x _ _ _ => some x
  | .call c => c.args[0]?
  | _ => none
def tmpsOf (l : List Operand) : List Nat := List.rec (motive := fun _ => List Nat) [] (fun x _ ih => match x with | .tmp t => t :: ih | _ => ih) l
def dE (ops : Array Oper) (o : Oper) : List Nat := match o.guard with
  | none => tmpsOf o.op.operands.toList
  | some (j, _) => match (ops[j]?).bind (·.dst) with | some t => t :: tmpsOf o.op.operands.toList | none => tmpsOf o.op.operands.toList
structure Dr where
  i : Nat
  o : Oper
  c : Nat
  m : Nat
  r : List Nat
def pM (P : Program) (ops : Array Oper) (l : List Oper) (ms : List Nat) : Nat → List Dr := List.rec (motive := fun _ => Nat → List Dr) (fun _ => []) (fun o _ ih i => ⟨i, o, cls P o.op, l9 0 ms i, dE ops o⟩ :: ih (Nat.succ i)) l
def ready (D : Nat) (x : Dr) : Bool := Nat.beq (Nat.land x.m D) x.m
def bf (i : Nat) (l : List Dr) : List Dr := List.rec (motive := fun _ => List Dr) [] (fun x r ih => Bool.rec (motive := fun _ => List Dr) (x :: ih) r (Nat.beq x.i i)) l
def jy (D : Nat) (l : List Dr) (no : Option Dr) : Option Dr := List.rec (motive := fun _ => Option Dr) no (fun x _ ih => Bool.rec (motive := fun _ => Option Dr) ih (some x) (az (ready D x) (Nat.ble x.c 2))) l
def jx (D : Nat) (l : List Dr) : Option Dr := List.rec (motive := fun _ => Option Dr) none (fun x _ ih => Bool.rec (motive := fun _ => Option Dr) ih (some x) (ready D x)) l
def order (n : Nat) : Nat → List Dr → List Dr := Nat.rec (motive := fun _ => Nat → List Dr → List Dr) (fun _ _ => []) (fun _ ih D l => Option.rec (motive := fun _ => List Dr) [] (fun x => x :: ih (Nat.lor D (Nat.pow 2 x.i)) (bf x.i l)) (jy D l (jx D l))) n
def kB (x y : Dr) : Bool := Option.rec (motive := fun _ => Bool) true (fun d => az (Option.rec (motive := fun _ => Bool) true (fun e => bZ (Nat.beq d e)) y.o.dst)
  (kZ (fun t => Bool.rec (motive := fun _ => Bool) true (Bool.rec (motive := fun _ => Bool) (bit x.m y.i) true (bit y.m x.i)) (Nat.beq t d)) y.r)) x.o.dst
def pz (x y : Dr) : Bool := Bool.rec (motive := fun _ => Bool) (az (bZ (Nat.beq x.c 6)) (az (bZ (Nat.beq y.c 6)) (Bool.rec (motive := fun _ => Bool) (Nat.beq y.c 0) true (Nat.ble x.c 2)))) true (bit y.m x.i)
def a29 (f : Dr → Dr → Bool) (l : List Dr) : Bool := List.rec (motive := fun _ => Bool) true (fun x r ih => az (kZ (fun y => f x y) r) ih) l
def jZ (l : List Dr) (n : Nat) : Bool := az (Nat.beq (List.rec (motive := fun _ => Nat) 0 (fun _ _ ih => Nat.succ ih) l) n) (a29 (fun x y => az (kB x y) (az (kB y x) (pz x y))) l)
def eZ (sk : Row) (fr : Fr) (l : List Rd) : List Nat → (List Nat → ab) → ab := List.rec (motive := fun _ => List Nat → (List Nat → ab) → ab) (fun acc k => k acc) (fun x _ ih acc k => x.get sk fr fun v => v.on (fun _ _ => .fail) (fun _ => .fail) (fun _ _ => ih acc k) (fun b _ => ih (b :: acc) k) (fun b _ _ _ => ih (b :: acc) k) (fun _ _ _ _ => ih acc k) (fun _ _ => .fail) (fun _ _ => .fail)
  (fun g _ b _ _ => when (Nat.beq g 4) (ih (b :: acc) k) (aq (Nat.beq g 1 || Nat.ble 6 g) (ih acc k)))) l
def rC (M : Mem) (l : List Nat) : Hp → List (Nat × aX) → (List (Nat × aX) → Hp → ab) → ab := List.rec (motive := fun _ => Hp → List (Nat × aX) → (List (Nat × aX) → Hp → ab) → ab) (fun hp acc k => k acc hp)
  (fun i _ ih hp acc k => aA (Nat.add hp.rb i) fun b => hp.get M b fun B => hp.put M b .dead fun hp => ih hp ((b, B) :: acc) k) l
def nB (M : Mem) (l : List (Nat × aX)) : Hp → (Hp → ab) → ab := List.rec (motive := fun _ => Hp → (Hp → ab) → ab) (fun hp k => k hp) (fun p _ ih hp k => hp.put M p.1 p.2 fun hp => ih hp k) l
def kL (M : Mem) (h : Hp) (l : List Nat) : Hp → (Hp → ab) → ab := List.rec (motive := fun _ => Hp → (Hp → ab) → ab) (fun hp k => k hp) (fun b _ ih hp k => h.get M b fun B => hp.get M b fun B' =>
  aX.rec (motive := fun _ => ab) .fail (fun _ fl z s t => B'.o5 fun rw _ _ _ _ => hp.put M b (.row rw fl z s t) fun hp => ih hp k) (fun n t => B'.eX fun _ _ => hp.put M b (.map n t) fun hp => ih hp k) (fun _ _ _ _ => .fail) (fun _ => .fail) B) l
def Hp.a2b (l : List Nat) (h : Hp) : Hp := ⟨h.t, h.nx, l, h.rb⟩
def yg (a b : List Nat) : List Nat := List.rec (motive := fun _ => List Nat) b (fun x _ ih => x :: ih) a
def retS : Sm := ⟨fun _ _ _ => .fail⟩
def a5B : Pt := ⟨fun _ _ _ hp v => .val v hp⟩
def a7W (M : Mem) (A : List Nat) (L : List Rd) (s : Sm) (P : Pt) (k : Sm) : Sm :=
  ⟨fun sk fr hp => eZ sk fr L [] fun pl => rC M A hp [] fun sv h1 =>
    ab.rec (motive := fun _ => ab) (fun _ _ => .fail) (fun _ _ _ => .fail) (fun _ _ => .fail) (fun v h2 => nB M sv h2 fun h3 => kL M hp pl h3 fun h4 => Hp.rec (motive := fun _ => ab) (fun t nx _ _ => Hp.rec (motive := fun _ => ab) (fun _ nx0 pr rb => aq (Nat.ble nx0 nx) (P.f k sk fr ⟨t, nx, pr, rb⟩ v)) hp) h4) .fail (s.run sk fr (h1.a2b (yg pl hp.pr)))⟩
def cA (x : Dr) (l : List Dr) : List Nat := List.rec (motive := fun _ => List Nat) [] (fun y _ ih => Bool.rec (motive := fun _ => List Nat) ih (y.i :: ih) (az (Nat.beq y.c 2) (bZ (bit x.m y.i)))) l
def eM (x : Dr) (l : List Dr) : List Dr := List.rec (motive := fun _ => List Dr) [] (fun y _ ih => Bool.rec (motive := fun _ => List Dr) ih (y :: ih) (az (Nat.beq y.c 1) (bZ (bit x.m y.i)))) l
def bI (C : Cx) (g : G) (x : Dr) : Rd := Option.rec (motive := fun _ => Rd) ⟨fun _ _ _ => .fail⟩ (fun a => cH C g a) (spot x.o.op)
def pI (l : List Dr) (y : Dr) : Bool := Option.rec (motive := fun _ => Bool) false (fun a => match a with | .tmp t => kZ (fun z => Option.rec (motive := fun _ => Bool) true (fun d => Bool.rec (motive := fun _ => Bool) true (bit y.m z.i) (Nat.beq d t)) z.o.dst) l | _ => true) (spot y.o.op)
def opers (l : List Dr) : List Oper := List.rec (motive := fun _ => List Oper) [] (fun x _ ih => x.o :: ih) l
def yw (C : Cx) (g : G) (all : List Dr) (x : Dr) (done : List Dr) (P : Pt) (k : Sm) : Sm :=
  Bool.rec (motive := fun _ => Sm)
    (let A := cA x done; let L := eM x done
     iff (kZ (pI all) L) (a7W C.M A (L.map (bI C g)) (er C g a5B (vi C.M x.i) retS x.o.op) P k)) (er C g P (vi C.M x.i) k x.o.op) (Nat.ble x.c 2)
def denD (C : Cx) (ops : Array Oper) (all : List Dr) (g : G) (x : Dr) (rest done : List Dr) (k : G → Sm) : Sm :=
  match alias C g x.o (opers rest) with
  | some a => iff (Nat.ble (Nat.succ a.1) C.nt) (k ⟨g.d, a :: dropKey a.1 g.m⟩)
  | none => (match dst C g x.o.dst with
    | ⟨P, g'⟩ => (match x.o.guard with
      | none => yw C g all x done P (k g')
      | some (j, want) => guarded C g P (k g') (yw C g all x done P (k g')) ((ops[j]?).bind (·.dst)) want))
def qO (C : Cx) (ops : Array Oper) (all l : List Dr) (g : G) (k : G → Sm) : List Dr → Sm :=
  List.rec (motive := fun _ => G → List Dr → Sm) (fun g _ => k g) (fun x r ih g done => denD C ops all g x r done (fun g => ih g (x :: done))) l g
def jB (l : List Nat) : List Nat → List Nat := List.rec (motive := fun _ => List Nat → List Nat) (fun acc => acc) (fun a _ ih acc => ih (a :: acc)) l
def oR (C : Cx) (ops : Array Oper) (g : G) (k : G → Sm) : Sm :=
  let n := ops.size
  let l := order n 0 (pM C.P ops ops.toList (jB (cC ops.toList [] 0) []) 0)
  Bool.rec (motive := fun _ => Sm) aP (let s := qO C ops l l g k []
    ⟨fun sk fr hp => Hp.rec (motive := fun _ => ab) (fun t nx pr _ => aA nx fun nx => aA (Nat.add nx n) fun m => s.run sk fr ⟨t, m, pr, nx⟩) hp⟩) (az (fZ ops.toList 0) (jZ l n))
def jv : Sm := ⟨fun _ fr hp => .ok fr hp⟩
def exS (id : Nat) : Sm := ⟨fun _ fr hp => .exit id fr hp⟩
def ku : Sm := ⟨fun _ fr hp => .ret fr hp⟩
def dy (k : Sm) : Sm := ⟨fun _ fr hp => k.run .lf fr hp⟩
abbrev jO := List (Nat × Sm)
def gy (id : Nat) (l : jO) : Sm := List.rec (motive := fun _ => Sm) aP (fun a _ ih => Bool.rec (motive := fun _ => Sm) ih a.2 (Nat.beq a.1 id)) l
def dS (l : jO) : jO := List.rec (motive := fun _ => jO) [] (fun a _ ih => (a.1, exS a.1) :: ih) l
def yF (l : jO) (n : Nat) (fr : Fr) (hp : Hp) : ab := List.rec (motive := fun _ => ab) .fail (fun a _ ih => Bool.rec (motive := fun _ => ab) ih (a.2.run .lf fr hp) (Nat.beq a.1 n)) l
def tick (s : Sm) (ih : Fr → Hp → ab) (fr : Fr) (hp : Hp) : ab := ab.rec (motive := fun _ => ab) (fun fr hp => ih fr hp) (fun n fr hp => .exit n fr hp) (fun fr hp => .ret fr hp) (fun _ _ => .fail) .fail (s.run .lf fr hp)
def ez (s : Sm) (n : Nat) : Fr → Hp → ab := Nat.rec (motive := fun _ => Fr → Hp → ab) (fun _ _ => .fail) (fun _ ih fr hp => tick s ih fr hp) n
def k4 (r : ab) (ok : Fr → Hp → ab) (ex : jO) (rt : Sm) : ab := ab.rec (motive := fun _ => ab) ok (fun n fr hp => yF ex n fr hp) (fun fr hp => rt.run .lf fr hp) (fun _ _ => .fail) .fail r
structure Lb where
  f : Nat → Sm
def kz (ls : List Nat) (segs : Lb) (ih : Sm → Fr → Hp → ab) (s : Sm) (fr : Fr) (hp : Hp) : ab := ab.rec (motive := fun _ => ab) (fun fr hp => .ok fr hp)
  (fun n fr hp => List.rec (motive := fun _ => ab) (.exit n fr hp) (fun l _ r => Bool.rec (motive := fun _ => ab) r (ih (segs.f l) fr hp) (Nat.beq (Nat.succ (Nat.mul 2 l)) n)) ls) (fun fr hp => .ret fr hp) (fun _ _ => .fail) .fail (s.run .lf fr hp)
def dj (ls : List Nat) (segs : Lb) (n : Nat) : Sm → Fr → Hp → ab := Nat.rec (motive := fun _ => Sm → Fr → Hp → ab) (fun _ _ _ => .fail) (fun _ ih s fr hp => kz ls segs ih s fr hp) n
structure DC where
  run : G → (G → Sm) → jO → Sm → Sm
  wN : Nat → Option (G → (G → Sm) → jO → Sm → Sm)
  ls : List Nat
def bV : Nat → Option (G → (G → Sm) → jO → Sm → Sm) := fun _ => none
def zR (ls : List Nat) (ex : jO) : jO := List.rec (motive := fun _ => jO) ex (fun l _ ih => (Nat.succ (Nat.mul 2 l), exS (Nat.succ (Nat.mul 2 l))) :: ih) ls
def a2R (C : Cx) (i : Nat) (f : Rd) (ok : Fr → Hp → ab) (ex : jO) (rt : Sm) : Sm :=
  ⟨fun sk fr hp => f.get sk fr fun fv => fv.tO fun g u a n _ => aq (Nat.beq g 3) ((jr C.M).f hp (.loop 0 C.self i fr) fun b hp =>
    eC b hp (kD n u (.nd (.x 5 .lf b 0 0) .lf .lf) fun l => cj (oW C a) l hp fun _ hp => hp.get C.M b fun B => B.kh fun st _ _ _ => hp.put C.M b .dead fun hp =>
      Nat.rec (motive := fun _ => ab) (ok fr hp) (fun s _ => Nat.rec (motive := fun _ => ab) .fail (fun s _ => Nat.rec (motive := fun _ => ab) (rt.run .lf fr hp) (fun s _ => yF ex s fr hp) s) s) st))⟩
def den (C : Cx) (c : Code) : DC := Code.rec (motive := fun _ => DC)
  ⟨fun g k _ _ => k g, bV, []⟩
  (fun _ ops d => ⟨fun g k _ _ => Bool.rec (motive := fun _ => Sm) (gu C ops ops.toList g k) (oR C ops g k) d, bV, []⟩)
  (fun _ _ a b => ⟨fun g k ex rt => a.run g (fun g => b.run g k ex rt) ex rt, fun l => Option.rec (motive := fun _ => Option (G → (G → Sm) → jO → Sm → Sm)) (b.wN l) (fun r => some fun g k ex rt => r g (fun g => b.run g k ex rt) ex rt) (a.wN l), nc a.ls b.ls⟩)
  (fun c _ _ a b => ⟨fun g k ex rt => let r := cH C g c; let j := dy (k .e); let A := a.run g (fun _ => j) ex rt; let B := b.run g (fun _ => j) ex rt; ⟨fun sk fr hp => r.get sk fr fun v => v.dx fun t => when t (A.run sk fr hp) (B.run sk fr hp)⟩, bV, []⟩)
  (fun id _ b => ⟨fun g k ex rt => let j := dy (k .e); b.run g (fun _ => j) ((Nat.mul 2 id, j) :: ex) rt, bV, []⟩)
  (fun _ b => ⟨fun _ _ ex rt => let s := b.run .e (fun _ => jv) (dS ex) ku; ⟨fun _ fr hp => k4 (ez s 1000000 fr hp) (fun _ _ => .fail) ex rt⟩, bV, []⟩)
  (fun f ps _ _ _ _ => ⟨fun g k ex rt => let j := k .e; a2R C (ps.getD 0 0) (cH C g f) (fun fr hp => j.run .lf fr hp) ex rt, bV, []⟩)
  (fun id => ⟨fun _ _ ex _ => dy (gy (Nat.mul 2 id) ex), bV, []⟩)
  (fun _ b => ⟨fun _ k ex rt => let j := k .e; let ex' := zR b.ls (dS ex); let s := b.run .e (fun _ => jv) ex' ku
      let segs : Lb := ⟨fun l => Option.rec (motive := fun _ => Sm) aP (fun r => r .e (fun _ => jv) ex' ku) (b.wN l)⟩
      ⟨fun _ fr hp => k4 (dj b.ls segs 1000000 s fr hp) (fun fr hp => j.run .lf fr hp) ex rt⟩, bV, []⟩)
  (fun l => ⟨fun g k _ _ => k g, fun m => Bool.rec (motive := fun _ => Option (G → (G → Sm) → jO → Sm → Sm)) none (some fun g k _ _ => k g) (Nat.beq l m), [l]⟩)
  (fun l => ⟨fun _ _ ex _ => dy (gy (Nat.succ (Nat.mul 2 l)) ex), bV, []⟩)
  ⟨fun _ _ _ rt => dy rt, bV, []⟩
  (fun _ => ⟨fun _ _ _ _ => aP, bV, []⟩) c
def resK (C : Cx) (l : List ResultVar) (fr : Fr) (hp : Hp) : (Row → ab) → ab := List.rec (motive := fun _ => (Row → ab) → ab) (fun k => k .lf)
  (fun x _ ih k => match x with
    | .tmp t => (zj 0 (look C .e t)).get .lf fr fun v => ih fun r => k (.nd v .lf r)
    | .cell t ty => (zj 0 (look C .e t)).get .lf fr fun p => aq (known C.P ty) (rU C.M (isAgg C.P ty) (aC C.P ty) p hp fun v => ih fun r => k (.nd v .lf r))) l
def lN (C : Cx) (l : List ResultVar) (fr : Fr) (hp : Hp) : ab := resK C l fr hp fun r => match l with
  | [_] => Tr.rec (motive := fun _ => ab) .fail (fun v _ _ _ _ => .val v hp) r
  | _ => .val (.bM r l.length) hp
def lS (i : Nat) (l : Row) : Fr → (Fr → ab) → ab := Tr.rec (motive := fun _ => Nat → Fr → (Fr → ab) → ab) (fun _ fr k => k fr) (fun v _ _ _ ih i fr k => (yD i).f fr v fun fr => ih (Nat.succ i) fr k) l i
def cu (n : Nat) (l : List Nat) : Bool := Nat.rec (motive := fun _ => Nat → List Nat → Bool) (fun _ _ => true) (fun _ ih i l => List.rec (motive := fun _ => Bool) false (fun a r _ => az (Nat.beq a i) (ih (Nat.succ i) r)) l) n 0 l
def zd (l : Row) : Nat := Tr.rec (motive := fun _ => Nat) 0 (fun _ _ _ _ n => Nat.succ n) l
def yh {α : Type} (a b : List α) : List α := List.rec (motive := fun _ => List α) b (fun x _ ih => x :: ih) a
def bn (c : Code) : List (Operand × Array Tmp × Code × Code) := Code.rec (motive := fun _ => List (Operand × Array Tmp × Code × Code)) [] (fun _ _ _ => []) (fun _ _ a b => yh a b) (fun _ _ _ a b => yh a b) (fun _ _ b => b) (fun _ b => b)
  (fun f ps a b ra rb => (f, ps, a, b) :: yh ra rb) (fun _ => []) (fun _ b => b) (fun _ => []) (fun _ => []) [] (fun _ => []) c
def lR (c : Code) : Bool := List.rec (motive := fun _ => Bool) true (fun _ r _ => List.rec (motive := fun _ => Bool) true (fun _ _ _ => false) r) (bn c)
def nj (c : Code) : Bool := List.rec (motive := fun _ => Bool) true (fun _ _ _ => false) (bn c)
def ax (C : Cx) : ao :=
  match jj C.P.funcs.toList C.self with
  | none => gG
  | some fn => match fn.body with
    | none => gG
    | some c =>
      let s := (den C c).run .e (fun _ => jv) [] ku
      let rs := fn.results.toList
      let n := fn.params.size + fn.nfree
      Bool.rec (motive := fun _ => ao) gG (Bool.rec (motive := fun _ => ao) gG ⟨fun l hp => aq (Nat.beq (zd l) n) (lS 0 l (blank C.vars.length) fun fr =>
        ab.rec (motive := fun _ => ab) (fun fr hp => lN C rs fr hp) (fun _ _ _ => .fail) (fun fr hp => lN C rs fr hp) (fun _ _ => .fail) .fail (s.run .lf fr hp))⟩ (cu n C.vars)) (az (lR c) (Nat.ble C.nt fn.ntmps))
def cf (i : Nat) (c : Code) : Option (List Nat × Code × Code) := Code.rec (motive := fun _ => Option (List Nat × Code × Code)) none (fun _ _ _ => none) (fun _ _ a b => Option.rec (motive := fun _ => Option (List Nat × Code × Code)) b some a) (fun _ _ _ a b => Option.rec (motive := fun _ => Option (List Nat × Code × Code)) b some a) (fun _ _ b => b) (fun _ b => b)
  (fun _ ps a b _ rb => Bool.rec (motive := fun _ => Option (List Nat × Code × Code)) rb (some (ps.toList, a, b)) (Nat.beq (ps.getD 0 0) i)) (fun _ => none) (fun _ b => b) (fun _ => none) (fun _ => none) none (fun _ => none) c
def a3a (C : Cx) (ps : List Nat) : Row → Fr → (Fr → ab) → ab := List.rec (motive := fun _ => Row → Fr → (Fr → ab) → ab) (fun l fr k => Tr.rec (motive := fun _ => ab) (k fr) (fun _ _ _ _ _ => .fail) l)
  (fun p _ ih l fr k => Tr.rec (motive := fun _ => ab) .fail (fun v _ r _ _ => aq (Nat.ble (Nat.succ p) C.nt) (Src.rec (motive := fun _ => ab) (fun _ => .fail) (fun _ => .fail) (fun i => (yD i).f fr v fun fr => ih r fr k) .fail (idxOf p C.vars 0))) l) ps
def a0R (c : Code) : jO := Code.rec (motive := fun _ => jO) [] (fun _ _ _ => []) (fun _ _ a b => a ++ b) (fun _ _ _ a b => a ++ b) (fun id _ b => (Nat.mul 2 id, aP) :: b) (fun _ b => b) (fun _ _ _ _ a b => a ++ b) (fun _ => []) (fun _ b => b) (fun _ => []) (fun _ => []) [] (fun _ => []) c
def nw (C : Cx) (i : Nat) : cq :=
  match jj C.P.funcs.toList C.self with
  | none => fQ
  | some fn => match fn.body with
    | none => fQ
    | some c => match cf i c with
      | none => fQ
      | some (ps, a, b) =>
        let s := (den C a).run .e (fun _ => jv) [] aP
        let t := (den C b).run .e (fun _ => jv) (dS (a0R c)) ku
        Bool.rec (motive := fun _ => cq) fQ ⟨fun fr l hp => a3a C ps l fr fun fr => s.run .lf fr hp, fun fr hp => t.run .lf fr hp⟩ (az (nj a) (nj b))
end
noncomputable section
def eJ (n : Nat) : Nat → List Nat := Nat.rec (motive := fun _ => Nat → List Nat) (fun _ => []) (fun _ ih s => Nat.mod s 256 :: ih (Nat.div s 256)) n
def bK (l : List UInt8) : List Nat := l.map (·.toNat)
def iR : Nat := 18446744073709551615
def idxA (c : Nat) (l : List Nat) : Nat → Nat := List.rec (motive := fun _ => Nat → Nat) (fun _ => iR) (fun a _ ih i => Bool.rec (motive := fun _ => Nat) (ih (Nat.succ i)) i (Nat.beq a c)) l
def yt (c : Nat) (l : List Nat) : Nat := List.rec (motive := fun _ => Nat) 0 (fun a _ ih => Bool.rec (motive := fun _ => Nat) ih (Nat.succ ih) (Nat.beq a c)) l
def vt (m : List Nat) : List Nat → Bool := List.rec (motive := fun _ => List Nat → Bool) (fun _ => true) (fun a _ ih l => List.rec (motive := fun _ => Bool) false (fun b r _ => Bool.rec (motive := fun _ => Bool) false (ih r) (Nat.beq a b)) l) m
def a3i (m : List Nat) (l : List Nat) : Nat → Nat := List.rec (motive := fun _ => Nat → Nat) (fun i => Bool.rec (motive := fun _ => Nat) iR i (vt m [])) (fun a r ih i => Bool.rec (motive := fun _ => Nat) (ih (Nat.succ i)) i (vt m (a :: r))) l
def a0c (l : List Nat) : Nat → Option Nat := List.rec (motive := fun _ => Nat → Option Nat) (fun acc => some acc) (fun b _ ih acc => Bool.rec (motive := fun _ => Option Nat) none (Bool.rec (motive := fun _ => Option Nat) none (ih (Nat.add (Nat.mul acc 10) (Nat.sub b 48))) (Nat.ble b 57)) (Nat.ble 48 b)) l
def qM (l : List Nat) : Option Nat := List.rec (motive := fun _ => Option Nat) none (fun b r _ => a0c (b :: r) 0) l
def atoA (l : List Nat) : Option Nat := List.rec (motive := fun _ => Option Nat) none (fun b r _ => Bool.rec (motive := fun _ => Option Nat) (Bool.rec (motive := fun _ => Option Nat) (qM (b :: r)) (qM r) (Nat.beq b 43)) (Option.rec (motive := fun _ => Option Nat) none (fun m => some (Nat.mod (Nat.sub yj m) yj)) (qM r)) (Nat.beq b 45)) l
def fT (l : Row) (k : AV → Row → ab) : ab := Tr.rec (motive := fun _ => ab) .fail (fun v _ r _ _ => k v r) l
def qB (l : Row) (k : ab) : ab := Tr.rec (motive := fun _ => ab) k (fun _ _ _ _ _ => .fail) l
def idxF : ao := ⟨fun l hp => fT l fun a r => fT r fun b r => qB r (a.bW fun s n => b.bo fun i c => aq (Nat.beq i 4) (aq (Nat.ble n 4294967280) (bX 3 (idxA c (eJ n s) 0) fun v => .val v hp)))⟩
def cntF : ao := ⟨fun l hp => fT l fun a r => fT r fun b r => qB r (a.bW fun s n => b.bW fun t m => aq (Nat.beq m 1) (aq (Nat.ble n 4294967280) (bX 3 (yt t (eJ n s)) fun v => .val v hp)))⟩
def cntG (F : ao) : ao := ⟨fun l hp => fT l fun _ r => fT r fun b _ => b.bW fun _ m => when (Nat.beq m 1) (cntF.f l hp) (F.f l hp)⟩
def subF : ao := ⟨fun l hp => fT l fun a r => fT r fun b r => qB r (a.bW fun s n => b.bW fun t m => aq (Nat.ble n 4294967280) (bX 3 (a3i (eJ m t) (eJ n s) 0) fun v => .val v hp))⟩
def atoF (T : Nat) : ao := ⟨fun l hp => fT l fun a r => qB r (a.bW fun s n => aq (Nat.ble n 18) (Option.rec (motive := fun _ => ab) (.val (.bM (.nd (.int 3 0) .lf (.nd (.x 12 .lf T 0 0) .lf .lf)) 2) hp) (fun m => bX 3 m fun v => .val (.bM (.nd v .lf (.nd (.x 11 .lf 0 0 0) .lf .lf)) 2) hp) (atoA (eJ n s))))⟩
structure Dfd where
  ia : Nat
  a : Array Oper
  id : Nat
  o0 : Oper
  o1 : Oper
  g : Nat
  fs : Array Operand
  l7 : Array Operand
  t : Nat
  t' : Nat
  aas : Array Operand
  ts : Array TypeId
  rest : Code
def opsD (o0 o1 : Oper) : Option (Nat × Array Operand × Array Operand × Nat × Nat × Array Operand × Array TypeId) := match o0.op, o0.dst, o0.guard, o1.op, o1.dst, o1.guard with
  | .makeFunc (.func g) fs l7, some t, none, .defer ⟨.value (.tmp t'), aas, ts⟩, none, none => some (g, fs, l7, t, t', aas, ts)
  | _, _, _, _, _, _ => none
def a7U (l : List Oper) : Option (Oper × Oper) := match l with
  | [x, y] => some (x, y)
  | _ => none
def mQ (c : Code) : Option Dfd := match c with
  | .seq (.region ia a false) (.seq (.region id ops false) rest) => (a7U ops.toList).bind fun p => (opsD p.1 p.2).map fun q => ⟨ia, a, id, p.1, p.2, q.1, q.2.1, q.2.2.1, q.2.2.2.1, q.2.2.2.2.1, q.2.2.2.2.2.1, q.2.2.2.2.2.2, rest⟩
  | _ => none
def vo (C : Cx) (g : G) (t : Nat) : Bool := match look C g t with
  | .no => Nat.ble (Nat.succ t) C.nt
  | _ => false
def wT (r : ab) : ab := ab.rec (motive := fun _ => ab) (fun _ _ => .fail) (fun _ _ _ => .fail) (fun _ _ => .fail) (fun v hp => .val v hp) .fail r
def okD (q : Dfd) : Bool := az (Nat.beq q.fs.size 0) (az (Nat.beq q.aas.size 0) (Nat.beq q.t q.t'))
end
end Go.Proofs.YtdlohaedegmiaaaGreatDoor.Ev
open Go Go.Proofs.YtdlohaedegmiaaaGreatDoor.Ev
namespace Go.Proofs.YtdlohaedegmiaaaGreatDoor.Tz
noncomputable section
def lD : Row := (.nd (.int 4 0) (.nd (.int 4 0) (.nd (.int 4 0) (Tr.full (.int 4 0) 6) (.nd (.int 4 1) (Tr.full (.int 4 0) 4) (Tr.full (.int 4 0) 4))) (.nd (.int 4 0) (.nd (.int 4 1) (Tr.full (.int 4 0) 4) (Tr.full (.int 4 0) 4)) (.nd (.int 4 1) (Tr.full (.int 4 0) 4) (Tr.full (.int 4 0) 4)))) (.nd (.int 4 0) (.nd (.int 4 0) (.nd (.int 4 0) (.nd (.int 4 0) (.nd (.int 4 1) (Tr.full (.int 4 0) 2) (Tr.full (.int 4 0) 2)) (Tr.full (.int 4 0) 3)) (Tr.full (.int 4 0) 4)) (.nd (.int 4 1) (Tr.full (.int 4 0) 4) (Tr.full (.int 4 0) 4))) (.nd (.int 4 0) (.nd (.int 4 1) (Tr.full (.int 4 0) 4) (Tr.full (.int 4 0) 4)) (Tr.full (.int 4 0) 5))))
def gls : List (Nat × AV) := [(1, .x 1 lD 0 256 1)]
end
end Go.Proofs.YtdlohaedegmiaaaGreatDoor.Tz
