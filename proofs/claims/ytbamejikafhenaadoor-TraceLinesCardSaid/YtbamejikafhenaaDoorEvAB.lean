import Derived.Test.YtbamejikafhenaaDoorEvAA
import GoSem.Core.Layout
namespace Go.Proofs.YtbamejikafhenaaDoor.Ev
noncomputable section
structure ZK where
  f : Hp → AV → (AV → Hp → aa) → aa
structure ZR where
  f : Hp → Row → Nat → Row → Nat → (Row → Hp → aa) → aa
def zr (M : Mem) (z : ZK) (n : Nat) : ZR := Nat.rec (motive := fun _ => ZR) ⟨fun hp _ _ d _ k => k d hp⟩ (fun _ ih => ⟨fun hp t o d p k => M.rg.f t o fun a => z.f hp a fun a hp => M.rs.f d p a fun d => ih.f hp t (Nat.succ o) d (Nat.succ p) k⟩) n
def zl (z : ZK) (l : Row) : Hp → (Row → Hp → aa) → aa := Tr.rec (motive := fun _ => Hp → (Row → Hp → aa) → aa) (fun hp k => k .lf hp) (fun v _ _ _ ih hp k => z.f hp v fun v hp => ih hp fun r hp => k (.nd v .lf r) hp) l
def frzS (M : Mem) (z : ZK) : ZK := ⟨fun hp v k => v.on (fun _ _ => k v hp) (fun _ => k v hp) (fun _ _ => k v hp) (fun _ _ => .fail)
    (fun b o n y => hp.use M b (Nat.add o (Nat.mul n y)) fun _ fl x s t => ar (Nat.beq x y) (ar (Nat.beq (Nat.mod o y) 0) (hp.put M b (.row false fl y s t) fun hp => when fl (aG (Nat.div o y) fun e => k (.vs t e n y) hp) ((zr M z n).f hp t (Nat.div o y) .lf 0 fun r hp => k (.vs r 0 n y) hp))))
    (fun _ _ _ _ => k v hp)
    (fun l n => eM l fun p => when p (k v hp) (zl z l hp fun r hp => k (.agg r n) hp))
    (fun t n => zl z t hp fun r hp => k (.bB r n) hp)
    (fun g t a b c => when (Nat.ble 6 g) (when (Nat.beq g 12) (zl z t hp fun r hp => k (.x g r a b c) hp) (k v hp)) (when (Nat.beq g 1) (k v hp) (ar (Nat.beq g 3) (zl z t hp fun r hp => k (.x g r a b c) hp))))⟩
def pN (M : Mem) (m : Nat) : ZK := Nat.rec (motive := fun _ => ZK) ⟨fun _ _ _ => .fail⟩ (fun _ ih => frzS M ih) m
structure IK where
  f : AV → Hp → Hp → Bool → (AV → Hp → Hp → Bool → aa) → aa
structure IR where
  f : Row → Nat → Row → Nat → Hp → Hp → Bool → (Row → Hp → Hp → Bool → aa) → aa
def ir (M : Mem) (z : IK) (n : Nat) : IR := Nat.rec (motive := fun _ => IR) ⟨fun _ _ d _ hc hp b k => k d hc hp b⟩ (fun _ ih => ⟨fun t o d p hc hp b k => M.rg.f t o fun a => z.f a hc hp b fun a hc hp b => M.rs.f d p a fun d => ih.f t (Nat.succ o) d (Nat.succ p) hc hp b k⟩) n
def il (z : IK) (l : Row) : Hp → Hp → Bool → (Row → Hp → Hp → Bool → aa) → aa := Tr.rec (motive := fun _ => Hp → Hp → Bool → (Row → Hp → Hp → Bool → aa) → aa) (fun hc hp b k => k .lf hc hp b) (fun v _ _ _ ih hc hp b k => z.f v hc hp b fun v hc hp b => ih hc hp b fun r hc hp b => k (.nd v .lf r) hc hp b) l
def ib (M : Mem) (z : IK) (c : Nat) (hc hp : Hp) (b : Bool) (k : Nat → Hp → Hp → Bool → aa) : aa :=
  hc.get M c fun B => bX.rec (motive := fun _ => aa) .fail
    (fun rw fl y s t => when fl (hc.put M c (.fwd hp.nx) fun hc => (aY M).f hp (.row rw fl y s t) fun id hp => k id hc hp (Bool.rec (motive := fun _ => Bool) true b rw))
      ((ir M z (Nat.div s y)).f t 0 .lf 0 hc hp b fun r hc hp b => hc.get M c fun B2 => B2.lO fun _ _ _ _ _ => aG (Nat.mul (Nat.div s y) y) fun s => hc.put M c (.fwd hp.nx) fun hc => (aY M).f hp (.row rw false y s r) fun id hp => k id hc hp (Bool.rec (motive := fun _ => Bool) true b rw)))
    (fun n t => (ir M z (Nat.mul 2 n)).f t 0 .lf 0 hc hp b fun r hc hp b => hc.get M c fun B2 => B2.q8 fun _ _ => hc.put M c (.fwd hp.nx) fun hc => (aY M).f hp (.map n r) fun id hp => k id hc hp b)
    (fun _ _ _ _ => .fail) (fun id => k id hc hp b) B
def impS (M : Mem) (z : IK) : IK := ⟨fun v hc hp b k => v.on (fun _ _ => k v hc hp b) (fun _ => k v hc hp b) (fun _ _ => k v hc hp b)
    (fun c o => ib M z c hc hp b fun id hc hp b => k (.ptr id o) hc hp b)
    (fun c o n y => ib M z c hc hp b fun id hc hp b => k (.ms id o n y) hc hp b)
    (fun _ _ _ _ => k v hc hp true)
    (fun l n => eM l fun p => when p (k v hc hp b) (il z l hc hp b fun r hc hp b => k (.agg r n) hc hp b))
    (fun t n => il z t hc hp b fun r hc hp b => k (.bB r n) hc hp b)
    (fun g t a p c => when (Nat.ble 6 g) (when (Nat.beq g 12) (il z t hc hp b fun r hc hp b => k (.x g r a p c) hc hp b) (k v hc hp b))
      (when (Nat.beq g 1) (k v hc hp true) (when (Nat.beq g 3) (il z t hc hp b fun r hc hp b => k (.x g r a p c) hc hp b) (ar (Nat.beq g 4) (ib M z a hc hp b fun id hc hp b => k (.x 4 .lf id p c) hc hp b)))))⟩
def imp (M : Mem) (m : Nat) : IK := Nat.rec (motive := fun _ => IK) ⟨fun _ _ _ _ _ => .fail⟩ (fun _ ih => impS M ih) m
structure bN where
  f : Row → Hp → aa
def pL : bN := ⟨fun _ _ => .fail⟩
def fh (M : Mem) (hp : Hp) (l : Row) (yes : Row → Hp → aa) (no : aa) : aa :=
  aa.rec (motive := fun _ => aa) (fun _ _ => no) (fun _ _ _ => no) (fun _ _ => no) (fun v h => v.wx fun r _ => yes r h) no (zl (pN M 24) l hp fun r h => .val (.bB r 0) h)
def eX (M : Mem) (F : bN) (a : Row) (hp ho : Hp) (k : AV → Hp → aa) : aa :=
  aa.rec (motive := fun _ => aa) (fun _ _ => .fail) (fun _ _ _ => .fail) (fun _ _ => .fail)
    (fun v hc => (imp M 24).f v hc hp false fun v' _ hp' b => when b ((imp M 24).f v hc ho false fun v _ hp _ => k v hp) (k v' hp')) .fail (F.f a .empty)
def fe (F : bN) (a : Row) (hp : Hp) (k : AV → Hp → aa) : aa :=
  aa.rec (motive := fun _ => aa) (fun _ _ => .fail) (fun _ _ _ => .fail) (fun _ _ => .fail)
    (fun v h => Hp.rec (motive := fun _ => aa) (fun t nx _ _ => Hp.rec (motive := fun _ => aa) (fun _ _ pr rb => k v ⟨t, nx, pr, rb⟩) hp) h) .fail (F.f a hp)
def au (M : Mem) (sh : Bool) (F : bN) (a : Row) (hp : Hp) (k : AV → Hp → aa) : aa :=
  Bool.rec (motive := fun _ => aa) (fh M hp a (fun a ho => eX M F a hp ho k) (fe F a hp k)) (fe F a hp k) sh
structure a4G where
  f : Fr → Row → Hp → aa
  g : Fr → Hp → aa
def agm : a4G := ⟨fun _ _ _ => .fail, fun _ _ => .fail⟩
inductive Src where
  | c (v : AV)
  | s (l : Nat)
  | f (i : Nat)
  | no
structure G where
  d : Nat
  m : List (Nat × Src)
abbrev G.e : G := ⟨0, []⟩
structure Cx where
  M : Mem
  P : Program
  fn : List (Nat × bN)
  sh : List Nat
  yl : List (Nat × Nat × a4G)
  gl : List (Nat × AV)
  vars : List Nat
  nt : Nat
  self : Nat
def idxOf (t : Nat) (l : List Nat) : Nat → Src := List.rec (motive := fun _ => Nat → Src) (fun _ => .no) (fun a _ ih i => Bool.rec (motive := fun _ => Src) (ih (Nat.succ i)) (.f i) (Nat.beq a t)) l
def look (C : Cx) (g : G) (t : Nat) : Src := List.rec (motive := fun _ => Src) (idxOf t C.vars 0) (fun a _ ih => Bool.rec (motive := fun _ => Src) ih a.2 (Nat.beq a.1 t)) g.m
def isVar (C : Cx) (t : Nat) : Bool := List.rec (motive := fun _ => Bool) false (fun a _ ih => Bool.rec (motive := fun _ => Bool) ih true (Nat.beq a t)) C.vars
def a9K (d : Nat) (s : Src) : Rd := match s with
  | .c v => ⟨fun _ _ k => k v⟩
  | .s l => Bool.rec (motive := fun _ => Rd) ⟨fun _ _ _ => .fail⟩ (a4b (Nat.sub (Nat.sub d 1) l)) (Nat.ble (Nat.succ l) d)
  | .f i => fget i
  | .no => ⟨fun _ _ _ => .fail⟩
def aL (l : List UInt8) : Nat := List.rec (motive := fun _ => Nat) 0 (fun b _ ih => Nat.add b.toNat (Nat.mul 256 ih)) l
def lm : Nat → Nat | 0 => 128 | 1 => 32768 | 2 => 2147483648 | 3 => 9223372036854775808 | 4 => 256 | 5 => 65536 | 6 => 4294967296 | _ => 18446744073709551616
def aZ : Value → AV
  | .int k n => Int.rec (motive := fun _ => AV) (fun m => Bool.rec (motive := fun _ => AV) .uu (.int (kc k) m) (Nat.ble (Nat.succ m) (lm (kc k)))) (fun m => Bool.rec (motive := fun _ => AV) .uu (.int (kc k) (Nat.sub (md (kc k)) (Nat.succ m))) (Nat.ble (Nat.succ m) (hf (kc k)))) n
  | .bool b => .bool b
  | .string s => .str (aL s.data.toList) s.size
  | .pointer none => .x 7 .lf 0 0 0
  | .slice none n c => Bool.rec (motive := fun _ => AV) .uu (.x 8 .lf 0 0 0) (bp (Nat.beq n 0) (Nat.beq c 0))
  | .nilFunc => .x 9 .lf 0 0 0
  | .map none => .x 10 .lf 0 0 0
  | .nilIface => .x 11 .lf 0 0 0
  | _ => .uu
def qR (l : List Value) : Row := List.rec (motive := fun _ => Row) .lf (fun v _ ih => .nd (aZ v) .lf ih) l
def eL (v : AV) : Bool := match v with | .x 0 _ _ _ _ => false | _ => true
def allKnown (l : List Value) : Bool := List.rec (motive := fun _ => Bool) true (fun v _ ih => bp (eL (aZ v)) ih) l
def fZ : Value → AV
  | .agg cs => Bool.rec (motive := fun _ => AV) .uu (.agg (qR cs.toList) cs.size) (allKnown cs.toList)
  | v => aZ v
def src (C : Cx) (g : G) : Operand → Src
  | .tmp t => look C g t
  | .const v => .c (fZ v)
  | .func f => .c (.x 3 .lf f 0 0)
  | .global n => List.rec (motive := fun _ => Src) .no (fun a _ ih => Bool.rec (motive := fun _ => Src) ih (.c a.2) (Nat.beq a.1 n)) C.gl
def jI (C : Cx) (g : G) (x : Operand) : Rd := a9K g.d (src C g x)
structure Pt where
  f : Sm → Row → Fr → Hp → AV → aa
def ajk : Pt := ⟨fun k sk fr hp _ => k.run sk fr hp⟩
def ptTmp : Pt := ⟨fun k sk fr hp v => k.run (.nd v .lf sk) fr hp⟩
def ptVar (i : Nat) : Pt := let s := fset i; ⟨fun k sk fr hp v => s.f fr v fun fr => k.run sk fr hp⟩
def eW (d i : Nat) (l : List (Nat × Src)) : List (Nat × Src) := List.rec (motive := fun _ => List (Nat × Src)) []
  (fun a _ ih => Bool.rec (motive := fun _ => List (Nat × Src)) (Src.rec (motive := fun _ => List (Nat × Src)) (fun _ => a :: ih) (fun _ => a :: ih) (fun j => Bool.rec (motive := fun _ => List (Nat × Src)) (a :: ih) ih (Nat.beq j i)) ih a.2) ih (Nat.beq a.1 d)) l
def dropKey (d : Nat) (l : List (Nat × Src)) : List (Nat × Src) := List.rec (motive := fun _ => List (Nat × Src)) [] (fun a _ ih => Bool.rec (motive := fun _ => List (Nat × Src)) (a :: ih) ih (Nat.beq a.1 d)) l
structure PG where
  p : Pt
  g : G
def acF : Pt := ⟨fun _ _ _ _ _ => .fail⟩
def dst (C : Cx) (g : G) : Option Nat → PG
  | none => ⟨ajk, g⟩
  | some d => Bool.rec (motive := fun _ => PG) ⟨acF, g⟩ (dstOf C g d) (Nat.ble (Nat.succ d) C.nt)
where dstOf (C : Cx) (g : G) (d : Nat) : PG := match idxOf d C.vars 0 with
    | .f i => ⟨ptVar i, ⟨g.d, eW d i g.m⟩⟩
    | _ => ⟨ptTmp, ⟨Nat.succ g.d, (d, .s g.d) :: dropKey d g.m⟩⟩
def cK : Sm := ⟨fun _ _ _ => .fail⟩
def dw : AV := .bB .lf 0
section ops
variable (C : Cx) (g : G) (P : Pt) (N : NK) (k : Sm)
def tn {α : Type} (l : List α) : Nat → Option α := List.rec (motive := fun _ => Nat → Option α) (fun _ => none) (fun a _ ih i => Nat.rec (motive := fun _ => Option α) (some a) (fun j _ => ih j) i) l
def eT (P : Program) (t : TypeId) : Option TypeInfo := tn P.types.toList t
def agJ (P : Program) (_ : TypeInfo) : TypeDesc → Option TypeDesc
  | .named _ u => Option.rec (motive := fun _ => Option TypeDesc) none (fun j => some j.desc) (eT P u)
  | d => some d
def eI (P : Program) (t : TypeId) : Option TypeDesc := Option.rec (motive := fun _ => Option TypeDesc) none (fun i => agJ P i i.desc) (eT P t)
def bw (P : Program) (t : TypeId) : Nat := Option.rec (motive := fun _ => Nat) 0 (fun i => i.size) (eT P t)
def isAgg (P : Program) (t : TypeId) : Bool := match eI P t with | some (.struct _) | some (.array ..) => true | _ => false
def slT (P : Program) (t : TypeId) : Option TypeId := match eI P t with | some (.slice e) => some e | _ => none
def a2U (P : Program) (t : TypeId) : Bool := match eI P t with | some (.int .u8) => true | _ => false
def known (P : Program) (t : TypeId) : Bool := Option.rec (motive := fun _ => Bool) false (fun _ => true) (eI P t)
def iff (b : Bool) (s : Sm) : Sm := Bool.rec (motive := fun _ => Sm) cK s b
def allF (f : Field → Bool) (l : List Field) : Bool := List.rec (motive := fun _ => Bool) true (fun a _ ih => bp (f a) ih) l
def allP (n : Nat) (l : List (Nat × Operand)) : Bool := List.rec (motive := fun _ => Bool) true (fun a _ ih => bp (Nat.ble (Nat.succ a.1) n) ih) l
def a3h (o z : Nat → Nat) (n : Nat) (l : List (Nat × Operand)) : Bool := List.rec (motive := fun _ => Bool) true (fun a _ ih => bp (Nat.ble (Nat.add (o a.1) (z a.1)) n) ih) l
def acN (P : Program) (t : TypeId) : Nat := match eI P t with | some (.array _ e) => bw P e | _ => bw P t
def dI (P : Program) (t : TypeId) : AV := match (eT P t).bind (·.zero) with | some v => fZ v | none => .uu
def gr (P : Program) (t : TypeId) : AV := match dI P t with | .agg (.nd v _ .lf) 1 => v | v => v
def a2N (P : Program) (t : TypeId) : Row := match dI P t with | .agg l _ => l | v => .nd v .lf .lf
def fi (P : Program) (t : TypeId) (z : Nat) : Bool := match dI P t with | .agg _ n => Nat.beq n z | .x 0 _ _ _ _ => false | _ => Nat.beq z 1
def bytesOf (P : Program) (t : TypeId) : Nat := Option.rec (motive := fun _ => Nat) 0 (fun i => i.bytes) (eT P t)
def fL (fs : Array Field) (f : Nat) : Nat := Option.rec (motive := fun _ => Nat) 0 (fun x => x.offset) (tn fs.toList f)
def gN (fs : Array Field) (f : Nat) : TypeId := Option.rec (motive := fun _ => TypeId) 0 (fun x => x.type) (tn fs.toList f)
def c1 (x : Operand) (f : AV → (AV → aa) → aa) : Sm := let a := jI C g x; ⟨fun sk fr hp => a.get sk fr fun a => f a fun v => P.f k sk fr hp v⟩
def c1h (x : Operand) (f : AV → Hp → (AV → Hp → aa) → aa) : Sm := let a := jI C g x; ⟨fun sk fr hp => a.get sk fr fun a => f a hp fun v hp => P.f k sk fr hp v⟩
def c2 (x y : Operand) (f : AV → AV → (AV → aa) → aa) : Sm := let a := jI C g x; let b := jI C g y; ⟨fun sk fr hp => a.get sk fr fun a => b.get sk fr fun b => f a b fun v => P.f k sk fr hp v⟩
def c2h (x y : Operand) (f : AV → AV → Hp → (AV → Hp → aa) → aa) : Sm := let a := jI C g x; let b := jI C g y; ⟨fun sk fr hp => a.get sk fr fun a => b.get sk fr fun b => f a b hp fun v hp => P.f k sk fr hp v⟩
def agx (x : Operand) : Sm := let a := jI C g x; ⟨fun sk fr hp => a.get sk fr fun v => P.f k sk fr hp v⟩
def agL (c x y : Operand) : Sm := let c := jI C g c; let a := jI C g x; let b := jI C g y; ⟨fun sk fr hp => c.get sk fr fun v => v.ay fun t => when t (a.get sk fr fun v => P.f k sk fr hp v) (b.get sk fr fun v => P.f k sk fr hp v)⟩
def ab7 (t : TypeId) (a : Rd) : Sm := let n := bw C.P t; let z := acN C.P t; ⟨fun sk fr hp => a.get sk fr fun a => cF C.M N a z n hp fun v hp => P.f k sk fr hp v⟩
structure Part where
  o : Nat
  sz : Nat
  x : Rd
structure UK where
  f : Row → Fr → Row → (Row → aa) → aa
def uk (l : List Part) : UK := List.rec (motive := fun _ => UK) ⟨fun _ _ t k => k t⟩ (fun p _ ih => ⟨fun sk fr t k => p.x.get sk fr fun v => vn p.o p.sz t v fun t => ih.f sk fr t k⟩) l
def partsOf (ps : List (Nat × Operand)) (o z : Nat → Nat) : List Part := List.rec (motive := fun _ => List Part) [] (fun p _ ih => ⟨o p.1, z p.1, jI C g p.2⟩ :: ih) ps
def abj (q : UK) (z : Row) (n : Nat) : Sm := ⟨fun sk fr hp => q.f sk fr z fun l => P.f k sk fr hp (.agg l n)⟩
def a1F (t : TypeId) (ps : Array (Nat × Operand)) : Sm :=
  match eI C.P t with
  | some (.struct fs) => iff (bp (fi C.P t (bw C.P t)) (bp (allF (fun f => known C.P f.type) fs.toList) (bp (allP fs.size ps.toList) (a3h (fL fs) (fun i => bw C.P (gN fs i)) (bw C.P t) ps.toList)))) <| abj P k (uk (partsOf C g ps.toList (fL fs) fun i => bw C.P (gN fs i))) (a2N C.P t) (bw C.P t)
  | some (.array _ e) => iff (bp (fi C.P t (bw C.P t)) (bp (known C.P e) (a3h (fun i => i * bw C.P e) (fun _ => bw C.P e) (bw C.P t) ps.toList))) <| abj P k (uk (partsOf C g ps.toList (fun i => i * bw C.P e) fun _ => bw C.P e)) (a2N C.P t) (bw C.P t)
  | _ => cK
structure VK where
  f : Row → Fr → Row → Bool → (Row → Bool → aa) → aa
def vk (M : Mem) (z : Nat) (l : List Part) : VK := List.rec (motive := fun _ => VK) ⟨fun _ _ t f k => k t f⟩ (fun p _ ih => ⟨fun sk fr t f k => p.x.get sk fr fun v => wrV M z z t p.o v fun t b => ih.f sk fr t (bp f b) k⟩) l
def gW (t : TypeId) (len : Nat) (ps : Array (Nat × Operand)) : Sm := match slT C.P t with
  | none => cK
  | some e => let z := bw C.P e; let q := vk C.M z (partsOf C g ps.toList (fun i => i * z) fun _ => z); let r0 := Tr.full (gr C.P e) (depth len); let s := len * z
    iff (bp (Nat.ble 1 z) (bp (fi C.P e z) (bp (Nat.ble s 16777216) (a3h (fun i => i * z) (fun _ => z) s ps.toList)))) ⟨fun sk fr hp => q.f sk fr r0 true fun r f => N.f hp (.row true f z s r) fun id hp => P.f k sk fr hp (.ms id 0 len z)⟩
def a2g (t : TypeId) (x : Operand) : Sm := let z := bw C.P t; let ag := isAgg C.P t; let a := jI C g x; Bool.rec (motive := fun _ => Sm) cK ⟨fun sk fr hp => a.get sk fr fun a => aq C.M ag z a hp fun v => P.f k sk fr hp v⟩ (known C.P t)
def a5G (t : TypeId) (x y : Operand) : Sm := let z := bw C.P t; let a := jI C g x; let b := jI C g y; iff (Nat.ble 1 z) ⟨fun sk fr hp => a.get sk fr fun a => b.get sk fr fun v => aH C.M z a v hp fun hp => P.f k sk fr hp dw⟩
def a0p (x : Operand) : Sm := c1 C g P k x fun v k => v.on (fun _ _ => .fail) (fun _ => .fail) (fun _ _ => .fail) (fun _ _ => k v) (fun _ _ _ _ => .fail) (fun _ _ _ _ => .fail) (fun _ _ => .fail) (fun _ _ => .fail) (fun g _ _ _ _ => ar (Nat.beq g 1 || Nat.beq g 3 || Nat.beq g 5 || Nat.beq g 12) (k v))
def yR (a b : List Nat) : List Nat := List.rec (motive := fun _ => List Nat) b (fun x _ ih => x :: ih) a
def iB (f : TypeId → Option (List Nat)) (l : List Field) : Nat → Option (List Nat) := List.rec (motive := fun _ => Nat → Option (List Nat)) (fun _ => some [])
  (fun x _ ih o => Bool.rec (motive := fun _ => Option (List Nat)) none (Option.rec (motive := fun _ => Option (List Nat)) none (fun a => Option.rec (motive := fun _ => Option (List Nat)) none (fun b => some (yR a b)) (ih (o + a.length))) (f x.type)) (bp (Nat.beq x.offset o) (dv (x.name == "_")))) l
def a1f (n : Nat) (a : List Nat) : List Nat := Nat.rec (motive := fun _ => List Nat) [] (fun _ ih => yR a ih) n
def chkO (n : Nat) (o : Option (List Nat)) : Option (List Nat) := Option.rec (motive := fun _ => Option (List Nat)) none (fun l => Bool.rec (motive := fun _ => Option (List Nat)) none (some l) (Nat.beq l.length n)) o
def nX (P : Program) (d : Nat) : TypeId → Option (List Nat) := Nat.rec (motive := fun _ => TypeId → Option (List Nat)) (fun _ => none) (fun _ ih t => chkO (bw P t) (match eI P t with
    | some .bool => some [0]
    | some .string => some [1]
    | some (.int q) => some [kc q + 2]
    | some (.struct fs) => Bool.rec (motive := fun _ => Option (List Nat)) none (iB ih fs.toList 0) (dv (P.stoodInHeld t))
    | some (.array n e) => Option.rec (motive := fun _ => Option (List Nat)) none (fun a => some (a1f n a)) (ih e)
    | _ => none)) d
def oX (P : Program) (t : TypeId) : EqP := match eI P t with
  | some .bool => .cell 0
  | some (.pointer _) => .nil 0
  | some (.slice _) => .nil 1
  | some (.func ..) => .nil 2
  | some (.map ..) => .nil 3
  | some (.struct _) | some (.array ..) => Option.rec (motive := fun _ => EqP) .no (fun l => .cells l) (nX P 20 t)
  | _ => .no
def a8l (P : Program) (t : TypeId) : Option Nat := match eI P t with
  | some .bool => some 0
  | some .string => some 1
  | some (.int q) => some (kc q + 2)
  | _ => none
def a22 : Operand → Bool
  | .const .nilIface => true
  | _ => false
def isIface (P : Program) (t : TypeId) : Bool := match eI P t with | some (.interface _) => true | _ => false
def a7B (op : BinOp) (x : Operand) : Sm := match op with
  | .eql => c1 C g P k x fun a k => a50 4 a fun b => k (.bool b)
  | .neq => c1 C g P k x fun a k => a50 4 a fun b => k (.bool (dv b))
  | _ => cK
def a2A (op : BinOp) (t : TypeId) (x y : Operand) : Sm :=
  let f : BK := match eI C.P t with
    | some (.int ik) => ae op (kc ik)
    | some .string => cx op
    | _ => wi (oX C.P t) op
  let a := jI C g x; let b := jI C g y; ⟨fun sk fr hp => a.get sk fr fun a => b.get sk fr fun b => f.f a b fun v => P.f k sk fr hp v⟩
def cBin (op : BinOp) (t : TypeId) (x y : Operand) : Sm := Bool.rec (motive := fun _ => Sm) (a2A C g P k op t x y) (a7B C g P k op x) (bp (isIface C.P t) (a22 y))
def cUn (op : UnOp) (x : Operand) : Sm := match op with
  | .neg => c1 C g P k x fun a k => a.bV fun i n => bu i (Nat.mod (Nat.sub (md i) n) (md i)) k
  | .xor => c1 C g P k x fun a k => a.bV fun i n => bu i (Nat.sub (Nat.sub (md i) 1) n) k
  | .not => c1 C g P k x fun a k => a.ay fun b => k (.bool (dv b))
  | _ => cK
def a6E (s d : TypeId) (x : Operand) : Sm := match eI C.P s, eI C.P d with
  | some (.int _), some (.int kk) => let j := kc kk; let M' := md j; c1 C g P k x fun a k => a.bV fun i n => bu j (rF (md i) (hf i) M' n) k
  | some .string, some .string => c1 C g P k x fun a k => a.ea fun s n => k (.str s n)
  | some .string, some (.slice e) => iff (a2U C.P e) <| c1h C g P k x fun a hp k => a.ea fun s n => (unpack C.M n).f s 0 .lf fun r => N.f hp (.row true true 1 n r) fun id hp => k (.ms id 0 n 1) hp
  | some (.slice e), some .string => iff (a2U C.P e) <| c1h C g P k x fun a hp k => a.fg (fun _ _ _ _ => my C.M 1 a hp fun t o n _ => (pack C.M n).f t o fun s => k (.str s n) hp) (fun _ _ _ _ => my C.M 1 a hp fun t o n _ => (pack C.M n).f t o fun s => k (.str s n) hp) (fun g => ar (Nat.beq g 8 || Nat.beq g 6) (k (.str 0 0) hp)) (fun _ _ => .fail)
  | some (.slice _), some (.slice e) => iff (bp (Nat.beq s d) (a2U C.P e)) <| c1h C g P k x fun a hp k => a.fg (fun b _ n _ => ar (Nat.ble 1 n) (hp.own C.M b 0 fun _ _ _ _ => k a hp)) (fun _ _ _ _ => .fail) (fun _ => .fail) (fun _ _ => .fail)
  | _, _ => cK
structure AK where
  f : Row → Fr → (Row → aa) → aa
def ak (l : List Rd) : AK := List.rec (motive := fun _ => AK) ⟨fun _ _ k => k .lf⟩ (fun x _ ih => ⟨fun sk fr k => x.get sk fr fun v => ih.f sk fr fun r => k (.nd v .lf r)⟩) l
def agn (f : FuncId) (a b : Array Operand) : Sm := let q := ak ((a.toList ++ b.toList).map (jI C g)); let n := a.size; let m := b.size; ⟨fun sk fr hp => q.f sk fr fun l => P.f k sk fr hp (.x 3 l f n m)⟩
def a8R (t : TypeId) (x : Operand) : Sm := let a := jI C g x; iff (match eI C.P t with | some (.map ..) => true | _ => false) ⟨fun sk fr hp => a.get sk fr fun v => v.bV fun _ _ => N.f hp (.map 0 .lf) fun id hp => P.f k sk fr hp (.x 4 .lf id 0 0)⟩
def a6u (t : TypeId) (x y : Operand) : Sm := match slT C.P t with
  | none => cK
  | some e => let z := bw C.P e; let v := gr C.P e; iff (bp (Nat.ble 1 z) (bp (fi C.P e z) (Nat.ble (bytesOf C.P e) 65536))) <| c2h C g P k x y fun a b hp k => gY b 1073741824 fun m => gY a m fun n => aG (Nat.mul n z) fun s => N.f hp (.row true true z s (Tr.full v (depth n))) fun id hp => k (.ms id 0 n z) hp
structure OK where
  f : Row → Fr → (Option AV → aa) → aa
def nF (x : Option Operand) : OK := match x with | none => ⟨fun _ _ k => k none⟩ | some x => let a := jI C g x; ⟨fun sk fr k => a.get sk fr fun v => k (some v)⟩
def a0V (t : TypeId) (x : Operand) (lo hi mx : Option Operand) : Sm :=
  let a := jI C g x; let l := nF C g lo; let h := nF C g hi; let m := nF C g mx
  match eI C.P t with
  | some (.array n e) => let z := bw C.P e; iff (Nat.ble 1 z) ⟨fun sk fr hp => a.get sk fr fun v => l.f sk fr fun l => h.f sk fr fun h => m.f sk fr fun m => v.pX (fun b o => hp.use C.M b (Nat.add o (Nat.mul n z)) fun _ _ _ _ _ => eS z (.ms b o n z) l h m fun v => P.f k sk fr hp v) (fun t o c y => ar (Nat.beq y z) (ar (Nat.beq (Nat.mod o z) 0) (ar (Nat.ble (Nat.mul n z) c) (eS z (.vs t (Nat.div o z) n z) l h m fun v => P.f k sk fr hp v))))⟩
  | some (.slice e) => let z := bw C.P e; iff (Nat.ble 1 z) ⟨fun sk fr hp => a.get sk fr fun v => l.f sk fr fun l => h.f sk fr fun h => m.f sk fr fun m => eS z v l h m fun v => P.f k sk fr hp v⟩
  | some .string => iff (Option.rec (motive := fun _ => Bool) true (fun _ => false) mx) ⟨fun sk fr hp => a.get sk fr fun v => l.f sk fr fun l => h.f sk fr fun h => dj v l h fun v => P.f k sk fr hp v⟩
  | _ => cK
def nB (t : TypeId) (x : Operand) (f : Nat) : Sm := match eI C.P t with
  | some (.struct fs) => let off := fL fs f; let a := jI C g x; iff (bp (Nat.ble (Nat.succ f) fs.size) (Nat.ble 1 (bw C.P (gN fs f)))) ⟨fun sk fr hp => a.get sk fr fun a => fieldAddr off a fun v => P.f k sk fr hp v⟩
  | _ => cK
def a0R (t : TypeId) (x : Operand) (f : Nat) : Sm := match eI C.P t with
  | some (.struct fs) => let off := fL fs f; let z := bw C.P (gN fs f); let ag := isAgg C.P (gN fs f); iff (bp (Nat.ble (Nat.succ f) fs.size) (known C.P (gN fs f))) <| c1 C g P k x fun a k => uQ ag z off a k
  | _ => cK
def nK (t : TypeId) (x i : Operand) : Sm := match eI C.P t with
  | some (.array n e) => let z := bw C.P e; iff (Nat.ble 1 z) <| c2 C g P k x i fun a j k => kB z n a j k
  | some (.slice e) => let z := bw C.P e; iff (Nat.ble 1 z) <| c2 C g P k x i fun a j k => indexAddr z a j k
  | _ => cK
def a0E (t : TypeId) (x i : Operand) : Sm := match eI C.P t with
  | some (.array n e) => let z := bw C.P e; let ag := isAgg C.P e; iff (known C.P e) <| c2 C g P k x i fun a j k => fP j n fun j => uQ ag z (Nat.mul j z) a k
  | some .string => c2 C g P k x i fun a j k => a.ea fun s n => fP j n fun j => bu 4 (Nat.mod (Nat.div s (Nat.pow 256 j)) 256) k
  | _ => cK
def ae3 (t : TypeId) (x i : Operand) (ok : Bool) : Sm := match eI C.P t with
  | some (.map kt e) => match a8l C.P kt with
   | none => cK
   | some c => let zv := dI C.P e; c2h C g P k x i fun m key hp k => m.onX fun q _ b _ _ => ar (Nat.beq q 4) (hp.get C.M b fun B => B.q8 fun n t =>
      (agY C.M c n).f t 0 key (fun j => C.M.rg.f t (Nat.succ j) fun v => when ok (k (.bB (.nd v .lf (.nd (.bool true) .lf .lf)) 2) hp) (k v hp)) (ar (eL zv) (when ok (k (.bB (.nd zv .lf (.nd (.bool false) .lf .lf)) 2) hp) (k zv hp))))
  | _ => cK
def vG (b : Nat) (hp : Hp) (k : aa) : aa := Hp.rec (motive := fun _ => aa) (fun _ _ pr _ => zo b pr k) hp
def a5S (t : TypeId) (m key x : Operand) : Sm := let a := jI C g m; let b := jI C g key; let y := jI C g x
  match eI C.P t with
  | some (.map kt _) => match a8l C.P kt with
   | none => cK
   | some c => ⟨fun sk fr hp => a.get sk fr fun m => b.get sk fr fun key => y.get sk fr fun v => m.onX fun q _ b _ _ => ar (Nat.beq q 4) (vG b hp (hp.get C.M b fun B => B.q8 fun n t =>
      (agY C.M c n).f t 0 key (fun j => C.M.rs.f t (Nat.succ j) v fun t => hp.put C.M b (.map n t) fun hp => P.f k sk fr hp dw)
        (C.M.rs.f t (Nat.mul 2 n) key fun t => C.M.rs.f t (Nat.succ (Nat.mul 2 n)) v fun t => hp.put C.M b (.map (Nat.succ n) t) fun hp => P.f k sk fr hp dw)))⟩
  | _ => cK
def a36 (x : Operand) (i : Nat) : Sm := let a := jI C g x; let e := a4b i; ⟨fun sk fr hp => a.get sk fr fun v => v.wx fun t _ => e.get t fr fun v => P.f k sk fr hp v⟩
def a3J (f : Nat) : bN := List.rec (motive := fun _ => bN) pL (fun a _ ih => Bool.rec (motive := fun _ => bN) ih a.2 (Nat.beq a.1 f)) C.fn
def aco (f : Nat) : Bool := List.rec (motive := fun _ => Bool) false (fun a _ ih => Bool.rec (motive := fun _ => Bool) ih true (Nat.beq a f)) C.sh
def ylOf (f i : Nat) : a4G := List.rec (motive := fun _ => a4G) agm (fun a _ ih => Bool.rec (motive := fun _ => a4G) ih (Bool.rec (motive := fun _ => a4G) ih a.2.2 (Nat.beq a.2.1 i)) (Nat.beq a.1 f)) C.yl
def a5w (M : Mem) (b : Nat) (pr : List Nat) (rb st : Nat) (v : Bool) (h : Hp) (k : AV → Hp → aa) : aa :=
  h.get M b fun B => B.ye fun s f i fr => ar (Nat.beq s 1) (h.put M b (.loop st f i fr) fun h => Hp.rec (motive := fun _ => aa) (fun t nx _ _ => k (.bool v) ⟨t, nx, pr, rb⟩) h)
def yldGo (M : Mem) (b : Nat) (pr : List Nat) (rb : Nat) (Y : a4G) (fr1 : Fr) (h1 : Hp) (k : AV → Hp → aa) : aa :=
  h1.get M b fun B => B.ye fun st f i fr => ar (Nat.beq st 0) (h1.put M b (.loop 1 f i fr) fun h2 =>
    aa.rec (motive := fun _ => aa) (fun _ h3 => a5w M b pr rb 0 true h3 k) (fun n _ h3 => a5w M b pr rb (Nat.add n 3) false h3 k) (fun _ h3 => a5w M b pr rb 2 false h3 k) (fun _ _ => .fail) .fail (Y.g fr1 h2))
def aaB (b : Nat) (l : Row) (hp : Hp) (k : AV → Hp → aa) : aa :=
  vG b hp (hp.get C.M b fun B => B.ye fun st f i fr => ar (Nat.beq st 0)
    (aa.rec (motive := fun _ => aa) (fun fr1 h1 => Hp.rec (motive := fun _ => aa) (fun _ _ pr rb => yldGo C.M b pr rb (ylOf C f i) fr1 h1 k) hp) (fun _ _ _ => .fail) (fun _ _ => .fail) (fun _ _ => .fail) .fail ((ylOf C f i).f fr l hp)))
def app (a b : Row) (k : Row → aa) : aa := Tr.rec (motive := fun _ => (Row → aa) → aa) (fun k => k b) (fun v _ _ _ ih k => ih fun r => k (.nd v .lf r)) a k
def wg (n : Nat) (a b : Row) (k : Row → aa) : aa := Nat.rec (motive := fun _ => Row → (Row → aa) → aa) (fun a k => app b a k) (fun _ ih a k => Tr.rec (motive := fun _ => aa) .fail (fun v _ r _ _ => ih r fun r => k (.nd v .lf r)) a) n a k
def a8D (f : Operand) (as : Array Operand) : Sm := let q := ak (as.toList.map (jI C g)); match f with
  | .func f => let F := a3J C f; let sh := aco C f; ⟨fun sk fr hp => q.f sk fr fun l => au C.M sh F l hp fun v hp => P.f k sk fr hp v⟩
  | f => let a := jI C g f; ⟨fun sk fr hp => a.get sk fr fun fv => fv.onX fun i u f n _ => q.f sk fr fun l => when (Nat.beq i 3) (wg n u l fun l => au C.M (aco C f) (a3J C f) l hp fun v hp => P.f k sk fr hp v)
      (ar (Nat.beq i 5) (aaB C f l hp fun v hp => P.f k sk fr hp v))⟩
def cLen (q : Nat) (x : Operand) : Sm := let a := jI C g x; ⟨fun sk fr hp => a.get sk fr fun a => cz C.M q a hp fun n => ar (Nat.ble n 9223372036854775807) (P.f k sk fr hp (.int 3 n))⟩
def acf (t : TypeId) : Bool := match eI C.P t with | some (.slice _) | some .string => true | _ => false
def rn (b : Builtin) (ts : List TypeId) (as : List Operand) : Sm :=
  match b, ts, as with
  | .len, t :: _, [x] => (match eI C.P t with
    | some (.array n _) => iff (Nat.ble n 9223372036854775807) ⟨fun sk fr hp => P.f k sk fr hp (.int 3 n)⟩
    | some .string => cLen C g P k 0 x
    | some (.slice _) => cLen C g P k 1 x
    | some (.map ..) => cLen C g P k 2 x
    | _ => cK)
  | .append, [t, u], [x, y] => (match slT C.P t with
    | some e => let z := bw C.P e; iff (bp (Nat.ble (bytesOf C.P e) 65536) (bp (Nat.ble 1 z) (fi C.P e z))) <| (match eI C.P u with
      | some (.int _) => let v := gr C.P e; c2h C g P k x y fun a b hp k => a.onX fun q _ _ _ _ => ar (Nat.beq q 8) (gY b 1073741824 fun n => ar (Nat.ble 1 n) (aG (Nat.mul n z) fun s => N.f hp (.row true true z s (Tr.full v (depth n))) fun id hp => k (.ms id 0 n z) hp))
      | _ => iff (acf C u) <| c2h C g P k x y fun a b hp k => cR C.M N z a b hp k)
    | none => cK)
  | _, _, _ => cK
end ops
def iO (C : Cx) (g : G) (P : Pt) (N : NK) (k : Sm) (op : Op) : Sm := match op with
  | .move x | .assign x => agx C g P k x
  | .pick c a b => agL C g P k c a b
  | .alloc t => ab7 C P N k t ⟨fun _ _ k => k (dI C.P t)⟩
  | .box t x => ab7 C P N k t (jI C g x)
  | .build t ps => a1F C g P k t ps
  | .buildSlice t n ps => gW C g P N k t n ps
  | .load t a => a2g C g P k t a
  | .store t a x => a5G C g P k t a x
  | .nilCheck x => a0p C g P k x
  | .binOp op t x y _ => cBin C g P k op t x y
  | .unOp op _ x => cUn C g P k op x
  | .convert s d x => a6E C g P N k s d x
  | .makeFunc (.func f) a b => agn C g P k f a b
  | .slice t x lo hi mx => a0V C g P k t x lo hi mx
  | .fieldAddr t x f => nB C g P k t x f
  | .field t x f => a0R C g P k t x f
  | .indexAddr t x i => nK C g P k t x i
  | .index t x i => a0E C g P k t x i
  | .extract x i => a36 C g P k x i
  | .call c => (match c.callee with
    | .builtin b => rn C g P N k b c.argTypes.toList c.args.toList
    | .value f => a8D C g P k f c.args
    | .invoke .. => cK)
  | _ => cK
def guarded (C : Cx) (g : G) (P : Pt) (k s : Sm) (t : Option Nat) (want : Bool) : Sm := match t with
  | none => cK
  | some t => let a := a9K g.d (look C g t)
    ⟨fun sk fr hp => a.get sk fr fun v => v.on (fun _ _ => .fail) (fun b => when (a15 b want) (P.f k sk fr hp dw) (s.run sk fr hp)) (fun _ _ => .fail) (fun _ _ => .fail) (fun _ _ _ _ => .fail) (fun _ _ _ _ => .fail) (fun _ _ => .fail) (fun _ _ => P.f k sk fr hp dw) (fun _ _ _ _ _ => .fail)⟩
def writes (t : Nat) (l : List Oper) : Bool := List.rec (motive := fun _ => Bool) false (fun o _ ih => Option.rec (motive := fun _ => Bool) ih (fun d => Bool.rec (motive := fun _ => Bool) ih true (Nat.beq d t)) o.dst) l
def alias (C : Cx) (g : G) (o : Oper) (rest : List Oper) : Option (Nat × Src) :=
  match o.guard, o.dst, o.op with
  | none, some d, .move x | none, some d, .assign x => if isVar C d then none else
    (match src C g x with
     | .c v => some (d, .c v)
     | .s l => some (d, .s l)
     | .f i => (match x with | .tmp t => if writes t rest then none else some (d, .f i) | _ => none)
     | .no => none)
  | _, _, _ => none
def a69 (C : Cx) (ops : Array Oper) (g : G) (N : NK) (o : Oper) (rest : List Oper) (k : G → Sm) : Sm :=
  match alias C g o rest with
  | some a => iff (Nat.ble (Nat.succ a.1) C.nt) (k ⟨g.d, a :: dropKey a.1 g.m⟩)
  | none => (match dst C g o.dst with
    | ⟨P, g'⟩ => (match o.guard with
      | none => iO C g P N (k g') o.op
      | some (j, want) => guarded C g P (k g') (iO C g P N (k g') o.op) ((ops[j]?).bind (·.dst)) want))
def oC (C : Cx) (ops : Array Oper) (l : List Oper) (g : G) (k : G → Sm) : Sm :=
  List.rec (motive := fun _ => G → Sm) k (fun o r ih g => a69 C ops g (aY C.M) o r ih) l g
end
end Go.Proofs.YtbamejikafhenaaDoor.Ev
namespace Go.Proofs.YtbamejikafhenaaDoor.Ev
noncomputable section
def vu {α : Type} (d : α) (l : List α) : Nat → α := List.rec (motive := fun _ => Nat → α) (fun _ => d) (fun a _ ih i => Nat.rec (motive := fun _ => α) a (fun j _ => ih j) i) l
def bit (m i : Nat) : Bool := Nat.beq (Nat.mod (Nat.div m (Nat.pow 2 i)) 2) 1
def eP (a b : Bool) : Bool := Bool.rec (motive := fun _ => Bool) false b a
def uW {α : Type} (f : α → Bool) (l : List α) : Bool := List.rec (motive := fun _ => Bool) true (fun a _ ih => eP (f a) ih) l
def iG (e : Edge) : Bool := Region.binds .any e
def iw (l : List Nat) (n : Nat) (es : List Edge) : Nat := List.rec (motive := fun _ => Nat) 0 (fun e _ ih => Bool.rec (motive := fun _ => Nat) ih (Nat.lor ih (Nat.lor (Nat.pow 2 e.on) (vu 0 l (Nat.sub (Nat.sub n 1) e.on)))) (iG e)) es
def iC (ops : List Oper) : List Nat → Nat → List Nat := List.rec (motive := fun _ => List Nat → Nat → List Nat) (fun acc _ => acc) (fun o _ ih acc n => ih (iw acc n o.after.toList :: acc) (Nat.succ n)) ops
def oN (ops : List Oper) : Nat → Bool := List.rec (motive := fun _ => Nat → Bool) (fun _ => true) (fun o _ ih n => eP (uW (fun e => Bool.rec (motive := fun _ => Bool) true (Nat.ble (Nat.succ e.on) n) (iG e)) o.after.toList) (ih (Nat.succ n))) ops
def cls (P : Program) : Op → Nat
  | .move .. | .pick .. | .assign .. | .fieldAddr .. | .field .. | .indexAddr .. | .index .. | .unOp .. | .binOp .. | .extract .. | .makeFunc .. | .nilCheck .. | .build .. => 0
  | .slice t .. => match eI P t with | some (.array ..) => 1 | _ => 0
  | .load .. | .lookup .. => 1
  | .alloc .. | .box .. | .buildSlice .. | .makeSlice .. | .makeMap .. => 2
  | .convert s d _ => match eI P s, eI P d with
    | some (.slice _), some .string => 1
    | some .string, some (.slice _) => 2
    | some (.slice _), some (.slice _) => 6
    | _, _ => 0
  | .store .. | .mapUpdate .. => 3
  | .call c => match c.callee with
    | .builtin .len => (match eI P (c.argTypes.getD 0 0) with | some (.map ..) => 1 | _ => 0)
    | .builtin .min | .builtin .max => 0
    | .builtin .append | .builtin .copy | .builtin .clear => 3
    | .builtin _ => 6
    | .invoke .. => 6
    | .value _ => 3
  | _ => 6
def spot : Op → Option Operand
  | .load _ a => some a
  | .lookup _ a _ _ => some a
  | .convert _ _ x => some x
  | .slice _ x _ _ _ => some x
  | .call c => c.args[0]?
  | _ => none
def tmpsOf (l : List Operand) : List Nat := List.rec (motive := fun _ => List Nat) [] (fun x _ ih => match x with | .tmp t => t :: ih | _ => ih) l
def jY (ops : Array Oper) (o : Oper) : List Nat := match o.guard with
  | none => tmpsOf o.op.operands.toList
  | some (j, _) => match (ops[j]?).bind (·.dst) with | some t => t :: tmpsOf o.op.operands.toList | none => tmpsOf o.op.operands.toList
structure Dr where
  i : Nat
  o : Oper
  c : Nat
  m : Nat
  r : List Nat
def drs (P : Program) (ops : Array Oper) (l : List Oper) (ms : List Nat) : Nat → List Dr := List.rec (motive := fun _ => Nat → List Dr) (fun _ => []) (fun o _ ih i => ⟨i, o, cls P o.op, vu 0 ms i, jY ops o⟩ :: ih (Nat.succ i)) l
def ready (D : Nat) (x : Dr) : Bool := Nat.beq (Nat.land x.m D) x.m
def dH (i : Nat) (l : List Dr) : List Dr := List.rec (motive := fun _ => List Dr) [] (fun x r ih => Bool.rec (motive := fun _ => List Dr) (x :: ih) r (Nat.beq x.i i)) l
def sH (D : Nat) (l : List Dr) (no : Option Dr) : Option Dr := List.rec (motive := fun _ => Option Dr) no (fun x _ ih => Bool.rec (motive := fun _ => Option Dr) ih (some x) (eP (ready D x) (Nat.ble x.c 2))) l
def rQ (D : Nat) (l : List Dr) : Option Dr := List.rec (motive := fun _ => Option Dr) none (fun x _ ih => Bool.rec (motive := fun _ => Option Dr) ih (some x) (ready D x)) l
def order (n : Nat) : Nat → List Dr → List Dr := Nat.rec (motive := fun _ => Nat → List Dr → List Dr) (fun _ _ => []) (fun _ ih D l => Option.rec (motive := fun _ => List Dr) [] (fun x => x :: ih (Nat.lor D (Nat.pow 2 x.i)) (dH x.i l)) (sH D l (rQ D l))) n
def tT (x y : Dr) : Bool := Option.rec (motive := fun _ => Bool) true (fun d => eP (Option.rec (motive := fun _ => Bool) true (fun e => dv (Nat.beq d e)) y.o.dst)
  (uW (fun t => Bool.rec (motive := fun _ => Bool) true (Bool.rec (motive := fun _ => Bool) (bit x.m y.i) true (bit y.m x.i)) (Nat.beq t d)) y.r)) x.o.dst
def a0F (x y : Dr) : Bool := Bool.rec (motive := fun _ => Bool) (eP (dv (Nat.beq x.c 6)) (eP (dv (Nat.beq y.c 6)) (Bool.rec (motive := fun _ => Bool) (Nat.beq y.c 0) true (Nat.ble x.c 2)))) true (bit y.m x.i)
def aaS (f : Dr → Dr → Bool) (l : List Dr) : Bool := List.rec (motive := fun _ => Bool) true (fun x r ih => eP (uW (fun y => f x y) r) ih) l
def tX (l : List Dr) (n : Nat) : Bool := eP (Nat.beq (List.rec (motive := fun _ => Nat) 0 (fun _ _ ih => Nat.succ ih) l) n) (aaS (fun x y => eP (tT x y) (eP (tT y x) (a0F x y))) l)
def lp (sk : Row) (fr : Fr) (l : List Rd) : List Nat → (List Nat → aa) → aa := List.rec (motive := fun _ => List Nat → (List Nat → aa) → aa) (fun acc k => k acc) (fun x _ ih acc k => x.get sk fr fun v => v.on (fun _ _ => .fail) (fun _ => .fail) (fun _ _ => ih acc k) (fun b _ => ih (b :: acc) k) (fun b _ _ _ => ih (b :: acc) k) (fun _ _ _ _ => ih acc k) (fun _ _ => .fail) (fun _ _ => .fail)
  (fun g _ b _ _ => when (Nat.beq g 4) (ih (b :: acc) k) (ar (Nat.beq g 1 || Nat.ble 6 g) (ih acc k)))) l
def a3n (M : Mem) (l : List Nat) : Hp → List (Nat × bX) → (List (Nat × bX) → Hp → aa) → aa := List.rec (motive := fun _ => Hp → List (Nat × bX) → (List (Nat × bX) → Hp → aa) → aa) (fun hp acc k => k acc hp)
  (fun i _ ih hp acc k => aG (Nat.add hp.rb i) fun b => hp.get M b fun B => hp.put M b .dead fun hp => ih hp ((b, B) :: acc) k) l
def xG (M : Mem) (l : List (Nat × bX)) : Hp → (Hp → aa) → aa := List.rec (motive := fun _ => Hp → (Hp → aa) → aa) (fun hp k => k hp) (fun p _ ih hp k => hp.put M p.1 p.2 fun hp => ih hp k) l
def gp (M : Mem) (h : Hp) (l : List Nat) : Hp → (Hp → aa) → aa := List.rec (motive := fun _ => Hp → (Hp → aa) → aa) (fun hp k => k hp) (fun b _ ih hp k => h.get M b fun B => hp.get M b fun B' =>
  bX.rec (motive := fun _ => aa) .fail (fun _ fl z s t => B'.lO fun rw _ _ _ _ => hp.put M b (.row rw fl z s t) fun hp => ih hp k) (fun n t => B'.q8 fun _ _ => hp.put M b (.map n t) fun hp => ih hp k) (fun _ _ _ _ => .fail) (fun _ => .fail) B) l
def Hp.a3L (l : List Nat) (h : Hp) : Hp := ⟨h.t, h.nx, l, h.rb⟩
def pQ (a b : List Nat) : List Nat := List.rec (motive := fun _ => List Nat) b (fun x _ ih => x :: ih) a
def retS : Sm := ⟨fun _ _ _ => .fail⟩
def agb : Pt := ⟨fun _ _ _ hp v => .val v hp⟩
def a6G (M : Mem) (A : List Nat) (L : List Rd) (s : Sm) (P : Pt) (k : Sm) : Sm :=
  ⟨fun sk fr hp => lp sk fr L [] fun pl => a3n M A hp [] fun sv h1 =>
    aa.rec (motive := fun _ => aa) (fun _ _ => .fail) (fun _ _ _ => .fail) (fun _ _ => .fail) (fun v h2 => xG M sv h2 fun h3 => gp M hp pl h3 fun h4 => Hp.rec (motive := fun _ => aa) (fun t nx _ _ => Hp.rec (motive := fun _ => aa) (fun _ nx0 pr rb => ar (Nat.ble nx0 nx) (P.f k sk fr ⟨t, nx, pr, rb⟩ v)) hp) h4) .fail (s.run sk fr (h1.a3L (pQ pl hp.pr)))⟩
def ix (x : Dr) (l : List Dr) : List Nat := List.rec (motive := fun _ => List Nat) [] (fun y _ ih => Bool.rec (motive := fun _ => List Nat) ih (y.i :: ih) (eP (Nat.beq y.c 2) (dv (bit x.m y.i)))) l
def lM (x : Dr) (l : List Dr) : List Dr := List.rec (motive := fun _ => List Dr) [] (fun y _ ih => Bool.rec (motive := fun _ => List Dr) ih (y :: ih) (eP (Nat.beq y.c 1) (dv (bit x.m y.i)))) l
def fc (C : Cx) (g : G) (x : Dr) : Rd := Option.rec (motive := fun _ => Rd) ⟨fun _ _ _ => .fail⟩ (fun a => jI C g a) (spot x.o.op)
def a0I (l : List Dr) (y : Dr) : Bool := Option.rec (motive := fun _ => Bool) false (fun a => match a with | .tmp t => uW (fun z => Option.rec (motive := fun _ => Bool) true (fun d => Bool.rec (motive := fun _ => Bool) true (bit y.m z.i) (Nat.beq d t)) z.o.dst) l | _ => true) (spot y.o.op)
def opers (l : List Dr) : List Oper := List.rec (motive := fun _ => List Oper) [] (fun x _ ih => x.o :: ih) l
def vw (C : Cx) (g : G) (all : List Dr) (x : Dr) (done : List Dr) (P : Pt) (k : Sm) : Sm :=
  Bool.rec (motive := fun _ => Sm)
    (let A := ix x done; let L := lM x done
     iff (uW (a0I all) L) (a6G C.M A (L.map (fc C g)) (iO C g agb (jR C.M x.i) retS x.o.op) P k)) (iO C g P (jR C.M x.i) k x.o.op) (Nat.ble x.c 2)
def a4R (C : Cx) (ops : Array Oper) (all : List Dr) (g : G) (x : Dr) (rest done : List Dr) (k : G → Sm) : Sm :=
  match alias C g x.o (opers rest) with
  | some a => iff (Nat.ble (Nat.succ a.1) C.nt) (k ⟨g.d, a :: dropKey a.1 g.m⟩)
  | none => (match dst C g x.o.dst with
    | ⟨P, g'⟩ => (match x.o.guard with
      | none => vw C g all x done P (k g')
      | some (j, want) => guarded C g P (k g') (vw C g all x done P (k g')) ((ops[j]?).bind (·.dst)) want))
def uy (C : Cx) (ops : Array Oper) (all l : List Dr) (g : G) (k : G → Sm) : List Dr → Sm :=
  List.rec (motive := fun _ => G → List Dr → Sm) (fun g _ => k g) (fun x r ih g done => a4R C ops all g x r done (fun g => ih g (x :: done))) l g
def rp (l : List Nat) : List Nat → List Nat := List.rec (motive := fun _ => List Nat → List Nat) (fun acc => acc) (fun a _ ih acc => ih (a :: acc)) l
def pE (C : Cx) (ops : Array Oper) (g : G) (k : G → Sm) : Sm :=
  let n := ops.size
  let l := order n 0 (drs C.P ops ops.toList (rp (iC ops.toList [] 0) []) 0)
  Bool.rec (motive := fun _ => Sm) cK (let s := uy C ops l l g k []
    ⟨fun sk fr hp => Hp.rec (motive := fun _ => aa) (fun t nx pr _ => aG nx fun nx => aG (Nat.add nx n) fun m => s.run sk fr ⟨t, m, pr, nx⟩) hp⟩) (eP (oN ops.toList 0) (tX l n))
def vN : Sm := ⟨fun _ fr hp => .ok fr hp⟩
def exS (id : Nat) : Sm := ⟨fun _ fr hp => .exit id fr hp⟩
def vO : Sm := ⟨fun _ fr hp => .ret fr hp⟩
def jx (k : Sm) : Sm := ⟨fun _ fr hp => k.run .lf fr hp⟩
abbrev vy := List (Nat × Sm)
def og (id : Nat) (l : vy) : Sm := List.rec (motive := fun _ => Sm) cK (fun a _ ih => Bool.rec (motive := fun _ => Sm) ih a.2 (Nat.beq a.1 id)) l
def nU (l : vy) : vy := List.rec (motive := fun _ => vy) [] (fun a _ ih => (a.1, exS a.1) :: ih) l
def goOn (l : vy) (n : Nat) (fr : Fr) (hp : Hp) : aa := List.rec (motive := fun _ => aa) .fail (fun a _ ih => Bool.rec (motive := fun _ => aa) ih (a.2.run .lf fr hp) (Nat.beq a.1 n)) l
def tick (s : Sm) (ih : Fr → Hp → aa) (fr : Fr) (hp : Hp) : aa := aa.rec (motive := fun _ => aa) (fun fr hp => ih fr hp) (fun n fr hp => .exit n fr hp) (fun fr hp => .ret fr hp) (fun _ _ => .fail) .fail (s.run .lf fr hp)
def aD (s : Sm) (n : Nat) : Fr → Hp → aa := Nat.rec (motive := fun _ => Fr → Hp → aa) (fun _ _ => .fail) (fun _ ih fr hp => tick s ih fr hp) n
def qq (r : aa) (ok : Fr → Hp → aa) (ex : vy) (rt : Sm) : aa := aa.rec (motive := fun _ => aa) ok (fun n fr hp => goOn ex n fr hp) (fun fr hp => rt.run .lf fr hp) (fun _ _ => .fail) .fail r
structure Lb where
  f : Nat → Sm
def tG (ls : List Nat) (segs : Lb) (ih : Sm → Fr → Hp → aa) (s : Sm) (fr : Fr) (hp : Hp) : aa := aa.rec (motive := fun _ => aa) (fun fr hp => .ok fr hp)
  (fun n fr hp => List.rec (motive := fun _ => aa) (.exit n fr hp) (fun l _ r => Bool.rec (motive := fun _ => aa) r (ih (segs.f l) fr hp) (Nat.beq (Nat.succ (Nat.mul 2 l)) n)) ls) (fun fr hp => .ret fr hp) (fun _ _ => .fail) .fail (s.run .lf fr hp)
def jC (ls : List Nat) (segs : Lb) (n : Nat) : Sm → Fr → Hp → aa := Nat.rec (motive := fun _ => Sm → Fr → Hp → aa) (fun _ _ _ => .fail) (fun _ ih s fr hp => tG ls segs ih s fr hp) n
structure DC where
  run : G → (G → Sm) → vy → Sm → Sm
  lab : Nat → Option (G → (G → Sm) → vy → Sm → Sm)
  ls : List Nat
def fJ : Nat → Option (G → (G → Sm) → vy → Sm → Sm) := fun _ => none
def adL (ls : List Nat) (ex : vy) : vy := List.rec (motive := fun _ => vy) ex (fun l _ ih => (Nat.succ (Nat.mul 2 l), exS (Nat.succ (Nat.mul 2 l))) :: ih) ls
def abF (C : Cx) (i : Nat) (f : Rd) (ok : Fr → Hp → aa) (ex : vy) (rt : Sm) : Sm :=
  ⟨fun sk fr hp => f.get sk fr fun fv => fv.onX fun g u a n _ => ar (Nat.beq g 3) ((aY C.M).f hp (.loop 0 C.self i fr) fun b hp =>
    vG b hp (wg n u (.nd (.x 5 .lf b 0 0) .lf .lf) fun l => fe (a3J C a) l hp fun _ hp => hp.get C.M b fun B => B.ye fun st _ _ _ => hp.put C.M b .dead fun hp =>
      Nat.rec (motive := fun _ => aa) (ok fr hp) (fun s _ => Nat.rec (motive := fun _ => aa) .fail (fun s _ => Nat.rec (motive := fun _ => aa) (rt.run .lf fr hp) (fun s _ => goOn ex s fr hp) s) s) st))⟩
def den (C : Cx) (c : Code) : DC := Code.rec (motive := fun _ => DC)
  ⟨fun g k _ _ => k g, fJ, []⟩
  (fun _ ops d => ⟨fun g k _ _ => Bool.rec (motive := fun _ => Sm) (oC C ops ops.toList g k) (pE C ops g k) d, fJ, []⟩)
  (fun _ _ a b => ⟨fun g k ex rt => a.run g (fun g => b.run g k ex rt) ex rt, fun l => Option.rec (motive := fun _ => Option (G → (G → Sm) → vy → Sm → Sm)) (b.lab l) (fun r => some fun g k ex rt => r g (fun g => b.run g k ex rt) ex rt) (a.lab l), yR a.ls b.ls⟩)
  (fun c _ _ a b => ⟨fun g k ex rt => let r := jI C g c; let j := jx (k .e); let A := a.run g (fun _ => j) ex rt; let B := b.run g (fun _ => j) ex rt; ⟨fun sk fr hp => r.get sk fr fun v => v.ay fun t => when t (A.run sk fr hp) (B.run sk fr hp)⟩, fJ, []⟩)
  (fun id _ b => ⟨fun g k ex rt => let j := jx (k .e); b.run g (fun _ => j) ((Nat.mul 2 id, j) :: ex) rt, fJ, []⟩)
  (fun _ b => ⟨fun _ _ ex rt => let s := b.run .e (fun _ => vN) (nU ex) vO; ⟨fun _ fr hp => qq (aD s 1000000 fr hp) (fun _ _ => .fail) ex rt⟩, fJ, []⟩)
  (fun f ps _ _ _ _ => ⟨fun g k ex rt => let j := k .e; abF C (ps.getD 0 0) (jI C g f) (fun fr hp => j.run .lf fr hp) ex rt, fJ, []⟩)
  (fun id => ⟨fun _ _ ex _ => jx (og (Nat.mul 2 id) ex), fJ, []⟩)
  (fun _ b => ⟨fun _ k ex rt => let j := k .e; let ex' := adL b.ls (nU ex); let s := b.run .e (fun _ => vN) ex' vO
      let segs : Lb := ⟨fun l => Option.rec (motive := fun _ => Sm) cK (fun r => r .e (fun _ => vN) ex' vO) (b.lab l)⟩
      ⟨fun _ fr hp => qq (jC b.ls segs 1000000 s fr hp) (fun fr hp => j.run .lf fr hp) ex rt⟩, fJ, []⟩)
  (fun l => ⟨fun g k _ _ => k g, fun m => Bool.rec (motive := fun _ => Option (G → (G → Sm) → vy → Sm → Sm)) none (some fun g k _ _ => k g) (Nat.beq l m), [l]⟩)
  (fun l => ⟨fun _ _ ex _ => jx (og (Nat.succ (Nat.mul 2 l)) ex), fJ, []⟩)
  ⟨fun _ _ _ rt => jx rt, fJ, []⟩
  (fun _ => ⟨fun _ _ _ _ => cK, fJ, []⟩) c
def resK (C : Cx) (l : List ResultVar) (fr : Fr) (hp : Hp) : (Row → aa) → aa := List.rec (motive := fun _ => (Row → aa) → aa) (fun k => k .lf)
  (fun x _ ih k => match x with
    | .tmp t => (a9K 0 (look C .e t)).get .lf fr fun v => ih fun r => k (.nd v .lf r)
    | .cell t ty => (a9K 0 (look C .e t)).get .lf fr fun p => ar (known C.P ty) (aq C.M (isAgg C.P ty) (bw C.P ty) p hp fun v => ih fun r => k (.nd v .lf r))) l
def tQ (C : Cx) (l : List ResultVar) (fr : Fr) (hp : Hp) : aa := resK C l fr hp fun r => match l with
  | [_] => Tr.rec (motive := fun _ => aa) .fail (fun v _ _ _ _ => .val v hp) r
  | _ => .val (.bB r l.length) hp
def zu (i : Nat) (l : Row) : Fr → (Fr → aa) → aa := Tr.rec (motive := fun _ => Nat → Fr → (Fr → aa) → aa) (fun _ fr k => k fr) (fun v _ _ _ ih i fr k => (fset i).f fr v fun fr => ih (Nat.succ i) fr k) l i
def lS (n : Nat) (l : List Nat) : Bool := Nat.rec (motive := fun _ => Nat → List Nat → Bool) (fun _ _ => true) (fun _ ih i l => List.rec (motive := fun _ => Bool) false (fun a r _ => eP (Nat.beq a i) (ih (Nat.succ i) r)) l) n 0 l
def adE (l : Row) : Nat := Tr.rec (motive := fun _ => Nat) 0 (fun _ _ _ _ n => Nat.succ n) l
def a8M {α : Type} (a b : List α) : List α := List.rec (motive := fun _ => List α) b (fun x _ ih => x :: ih) a
def qf (c : Code) : List (Operand × Array Tmp × Code × Code) := Code.rec (motive := fun _ => List (Operand × Array Tmp × Code × Code)) [] (fun _ _ _ => []) (fun _ _ a b => a8M a b) (fun _ _ _ a b => a8M a b) (fun _ _ b => b) (fun _ b => b)
  (fun f ps a b ra rb => (f, ps, a, b) :: a8M ra rb) (fun _ => []) (fun _ b => b) (fun _ => []) (fun _ => []) [] (fun _ => []) c
def xV (c : Code) : Bool := List.rec (motive := fun _ => Bool) true (fun _ r _ => List.rec (motive := fun _ => Bool) true (fun _ _ _ => false) r) (qf c)
def noRF (c : Code) : Bool := List.rec (motive := fun _ => Bool) true (fun _ _ _ => false) (qf c)
def j1 (C : Cx) : bN :=
  match tn C.P.funcs.toList C.self with
  | none => pL
  | some fn => match fn.body with
    | none => pL
    | some c =>
      let s := (den C c).run .e (fun _ => vN) [] vO
      let rs := fn.results.toList
      let n := fn.params.size + fn.nfree
      Bool.rec (motive := fun _ => bN) pL (Bool.rec (motive := fun _ => bN) pL ⟨fun l hp => ar (Nat.beq (adE l) n) (zu 0 l (blank C.vars.length) fun fr =>
        aa.rec (motive := fun _ => aa) (fun fr hp => tQ C rs fr hp) (fun _ _ _ => .fail) (fun fr hp => tQ C rs fr hp) (fun _ _ => .fail) .fail (s.run .lf fr hp))⟩ (lS n C.vars)) (eP (xV c) (Nat.ble C.nt fn.ntmps))
def ahj (i : Nat) (c : Code) : Option (List Nat × Code × Code) := Code.rec (motive := fun _ => Option (List Nat × Code × Code)) none (fun _ _ _ => none) (fun _ _ a b => Option.rec (motive := fun _ => Option (List Nat × Code × Code)) b some a) (fun _ _ _ a b => Option.rec (motive := fun _ => Option (List Nat × Code × Code)) b some a) (fun _ _ b => b) (fun _ b => b)
  (fun _ ps a b _ rb => Bool.rec (motive := fun _ => Option (List Nat × Code × Code)) rb (some (ps.toList, a, b)) (Nat.beq (ps.getD 0 0) i)) (fun _ => none) (fun _ b => b) (fun _ => none) (fun _ => none) none (fun _ => none) c
end
end Go.Proofs.YtbamejikafhenaaDoor.Ev
