import Derived.Test.YtpiokjcbadfalaaGreatDoorEvAA
import GoSem.Core.Layout
namespace Go.Proofs.YtpiokjcbadfalaaGreatDoor.Ev
noncomputable section
structure ZK where
  f : Hp → AV → (AV → Hp → ab) → ab
structure ZR where
  f : Hp → Row → Nat → Row → Nat → (Row → Hp → ab) → ab
def zr (M : Mem) (z : ZK) (n : Nat) : ZR := Nat.rec (motive := fun _=>ZR) ⟨fun hp _ _ d _ k=>k d hp⟩ (fun _ ih=>⟨fun hp t o d p k=>M.rg.f t o fun a=>z.f hp a fun a hp=>M.rs.f d p a fun d=>ih.f hp t (Nat.succ o) d (Nat.succ p) k⟩) n
def zl (z : ZK) (l : Row) : Hp → (Row → Hp → ab) → ab := Tr.rec (motive := fun _=>Hp → (Row → Hp → ab) → ab) (fun hp k=>k .lf hp) (fun v _ _ _ ih hp k=>z.f hp v fun v hp=>ih hp fun r hp=>k (.nd v .lf r) hp) l
def frzS (M : Mem) (z : ZK) : ZK := ⟨fun hp v k=>v.on (fun _ _=>k v hp) (fun _=>k v hp) (fun _ _=>k v hp) (fun _ _=>.fail)
    (fun b o n y=>hp.use M b (Nat.add o (Nat.mul n y)) fun _ fl x s t=>au (Nat.beq x y) (au (Nat.beq (Nat.mod o y) 0) (hp.put M b (.row false fl y s t) fun hp=>when fl (aL (Nat.div o y) fun e=>k (.vs t e n y) hp) ((zr M z n).f hp t (Nat.div o y) .lf 0 fun r hp=>k (.vs r 0 n y) hp))))
    (fun _ _ _ _=>k v hp)
    (fun l n=>eR l fun p=>when p (k v hp) (zl z l hp fun r hp=>k (.agg r n) hp))
    (fun t n=>zl z t hp fun r hp=>k (.bu r n) hp)
    (fun g t a b c=>when (Nat.ble 6 g) (when (Nat.beq g 12) (zl z t hp fun r hp=>k (.x g r a b c) hp) (k v hp)) (when (Nat.beq g 1) (k v hp) (au (Nat.beq g 3) (zl z t hp fun r hp=>k (.x g r a b c) hp))))⟩
def nB (M : Mem) (m : Nat) : ZK := Nat.rec (motive := fun _=>ZK) ⟨fun _ _ _=>.fail⟩ (fun _ ih=>frzS M ih) m
structure IK where
  f : AV → Hp → Hp → Bool → (AV → Hp → Hp → Bool → ab) → ab
structure IR where
  f : Row → Nat → Row → Nat → Hp → Hp → Bool → (Row → Hp → Hp → Bool → ab) → ab
def ir (M : Mem) (z : IK) (n : Nat) : IR := Nat.rec (motive := fun _=>IR) ⟨fun _ _ d _ hc hp b k=>k d hc hp b⟩ (fun _ ih=>⟨fun t o d p hc hp b k=>M.rg.f t o fun a=>z.f a hc hp b fun a hc hp b=>M.rs.f d p a fun d=>ih.f t (Nat.succ o) d (Nat.succ p) hc hp b k⟩) n
def il (z : IK) (l : Row) : Hp → Hp → Bool → (Row → Hp → Hp → Bool → ab) → ab := Tr.rec (motive := fun _=>Hp → Hp → Bool → (Row → Hp → Hp → Bool → ab) → ab) (fun hc hp b k=>k .lf hc hp b) (fun v _ _ _ ih hc hp b k=>z.f v hc hp b fun v hc hp b=>ih hc hp b fun r hc hp b=>k (.nd v .lf r) hc hp b) l
def ib (M : Mem) (z : IK) (c : Nat) (hc hp : Hp) (b : Bool) (k : Nat → Hp → Hp → Bool → ab) : ab :=
  hc.get M c fun B=>bN.rec (motive := fun _=>ab) .fail
    (fun rw fl y s t=>when fl (hc.put M c (.fwd hp.nx) fun hc=>(br M).f hp (.row rw fl y s t) fun id hp=>k id hc hp (Bool.rec (motive := fun _=>Bool) true b rw))
      ((ir M z (Nat.div s y)).f t 0 .lf 0 hc hp b fun r hc hp b=>hc.get M c fun B2=>B2.ma fun _ _ _ _ _=>aL (Nat.mul (Nat.div s y) y) fun s=>hc.put M c (.fwd hp.nx) fun hc=>(br M).f hp (.row rw false y s r) fun id hp=>k id hc hp (Bool.rec (motive := fun _=>Bool) true b rw)))
    (fun n t=>(ir M z (Nat.mul 2 n)).f t 0 .lf 0 hc hp b fun r hc hp b=>hc.get M c fun B2=>B2.kY fun _ _=>hc.put M c (.fwd hp.nx) fun hc=>(br M).f hp (.map n r) fun id hp=>k id hc hp b)
    (fun _ _ _ _=>.fail) (fun id=>k id hc hp b) B
def impS (M : Mem) (z : IK) : IK := ⟨fun v hc hp b k=>v.on (fun _ _=>k v hc hp b) (fun _=>k v hc hp b) (fun _ _=>k v hc hp b)
    (fun c o=>ib M z c hc hp b fun id hc hp b=>k (.ptr id o) hc hp b)
    (fun c o n y=>ib M z c hc hp b fun id hc hp b=>k (.ms id o n y) hc hp b)
    (fun _ _ _ _=>k v hc hp true)
    (fun l n=>eR l fun p=>when p (k v hc hp b) (il z l hc hp b fun r hc hp b=>k (.agg r n) hc hp b))
    (fun t n=>il z t hc hp b fun r hc hp b=>k (.bu r n) hc hp b)
    (fun g t a p c=>when (Nat.ble 6 g) (when (Nat.beq g 12) (il z t hc hp b fun r hc hp b=>k (.x g r a p c) hc hp b) (k v hc hp b))
      (when (Nat.beq g 1) (k v hc hp true) (when (Nat.beq g 3) (il z t hc hp b fun r hc hp b=>k (.x g r a p c) hc hp b) (au (Nat.beq g 4) (ib M z a hc hp b fun id hc hp b=>k (.x 4 .lf id p c) hc hp b)))))⟩
def imp (M : Mem) (m : Nat) : IK := Nat.rec (motive := fun _=>IK) ⟨fun _ _ _ _ _=>.fail⟩ (fun _ ih=>impS M ih) m
structure aF where
  f : Row → Hp → ab
def ju : aF := ⟨fun _ _=>.fail⟩
def er (M : Mem) (hp : Hp) (l : Row) (yes : Row → Hp → ab) (no : ab) : ab :=
  ab.rec (motive := fun _=>ab) (fun _ _=>no) (fun _ _ _=>no) (fun _ _=>no) (fun v h=>v.xJ fun r _=>yes r h) no (zl (nB M 24) l hp fun r h=>.val (.bu r 0) h)
def dQ (M : Mem) (F : aF) (a : Row) (hp ho : Hp) (k : AV → Hp → ab) : ab :=
  ab.rec (motive := fun _=>ab) (fun _ _=>.fail) (fun _ _ _=>.fail) (fun _ _=>.fail)
    (fun v hc=>(imp M 24).f v hc hp false fun v' _ hp' b=>when b ((imp M 24).f v hc ho false fun v _ hp _=>k v hp) (k v' hp')) .fail (F.f a .empty)
def dB (F : aF) (a : Row) (hp : Hp) (k : AV → Hp → ab) : ab :=
  ab.rec (motive := fun _=>ab) (fun _ _=>.fail) (fun _ _ _=>.fail) (fun _ _=>.fail)
    (fun v h=>Hp.rec (motive := fun _=>ab) (fun t nx _ _=>Hp.rec (motive := fun _=>ab) (fun _ _ pr rb=>k v ⟨t,nx,pr,rb⟩) hp) h) .fail (F.f a hp)
def aH (M : Mem) (sh : Bool) (F : aF) (a : Row) (hp : Hp) (k : AV → Hp → ab) : ab :=
  Bool.rec (motive := fun _=>ab) (er M hp a (fun a ho=>dQ M F a hp ho k) (dB F a hp k)) (dB F a hp k) sh
structure gP where
  f : Fr → Row → Hp → ab
  g : Fr → Hp → ab
def nM : gP := ⟨fun _ _ _=>.fail,fun _ _=>.fail⟩
inductive Src where
  | c (v : AV)
  | s (l : Nat)
  | f (i : Nat)
  | no
structure G where
  d : Nat
  m : List (Nat × Src)
abbrev G.e : G := ⟨0,[]⟩
structure Cx where
  M : Mem
  P : Program
  fn : List (Nat × aF)
  sh : List Nat
  yl : List (Nat × Nat × gP)
  gl : List (Nat × AV)
  vars : List Nat
  nt : Nat
  self : Nat
def idxOf (t : Nat) (l : List Nat) : Nat → Src := List.rec (motive := fun _=>Nat → Src) (fun _=>.no) (fun a _ ih i=>Bool.rec (motive := fun _=>Src) (ih (Nat.succ i)) (.f i) (Nat.beq a t)) l
def look (C : Cx) (g : G) (t : Nat) : Src := List.rec (motive := fun _=>Src) (idxOf t C.vars 0) (fun a _ ih=>Bool.rec (motive := fun _=>Src) ih a.2 (Nat.beq a.1 t)) g.m
def isVar (C : Cx) (t : Nat) : Bool := List.rec (motive := fun _=>Bool) false (fun a _ ih=>Bool.rec (motive := fun _=>Bool) ih true (Nat.beq a t)) C.vars
def aca (d : Nat) (s : Src) : Rd := match s with
  | .c v=>⟨fun _ _ k=>k v⟩
  | .s l=>Bool.rec (motive := fun _=>Rd) ⟨fun _ _ _=>.fail⟩ (a5N (Nat.sub (Nat.sub d 1) l)) (Nat.ble (Nat.succ l) d)
  | .f i=>fget i
  | .no=>⟨fun _ _ _=>.fail⟩
def aR (l : List UInt8) : Nat := List.rec (motive := fun _=>Nat) 0 (fun b _ ih=>Nat.add b.toNat (Nat.mul 256 ih)) l
def lm : Nat → Nat | 0=>128 | 1=>32768 | 2=>2147483648 | 3=>9223372036854775808 | 4=>256 | 5=>65536 | 6=>4294967296 | _=>18446744073709551616
def aZ : Value → AV
  | .int k n=>Int.rec (motive := fun _=>AV) (fun m=>Bool.rec (motive := fun _=>AV) .uu (.int (kc k) m) (Nat.ble (Nat.succ m) (lm (kc k)))) (fun m=>Bool.rec (motive := fun _=>AV) .uu (.int (kc k) (Nat.sub (md (kc k)) (Nat.succ m))) (Nat.ble (Nat.succ m) (hf (kc k)))) n
  | .bool b=>.bool b
  | .string s=>.str (aR s.data.toList) s.size
  | .pointer none=>.x 7 .lf 0 0 0
  | .slice none n c=>Bool.rec (motive := fun _=>AV) .uu (.x 8 .lf 0 0 0) (bp (Nat.beq n 0) (Nat.beq c 0))
  | .nilFunc=>.x 9 .lf 0 0 0
  | .map none=>.x 10 .lf 0 0 0
  | .nilIface=>.x 11 .lf 0 0 0
  | _=>.uu
def qC (l : List Value) : Row := List.rec (motive := fun _=>Row) .lf (fun v _ ih=>.nd (aZ v) .lf ih) l
def dS (v : AV) : Bool := match v with | .x 0 _ _ _ _=>false | _=>true
def allKnown (l : List Value) : Bool := List.rec (motive := fun _=>Bool) true (fun v _ ih=>bp (dS (aZ v)) ih) l
def fP : Value → AV
  | .agg cs=>Bool.rec (motive := fun _=>AV) .uu (.agg (qC cs.toList) cs.size) (allKnown cs.toList)
  | v=>aZ v
def src (C : Cx) (g : G) : Operand → Src
  | .tmp t=>look C g t
  | .const v=>.c (fP v)
  | .func f=>.c (.x 3 .lf f 0 0)
  | .global n=>List.rec (motive := fun _=>Src) .no (fun a _ ih=>Bool.rec (motive := fun _=>Src) ih (.c a.2) (Nat.beq a.1 n)) C.gl
def iz (C : Cx) (g : G) (x : Operand) : Rd := aca g.d (src C g x)
structure Pt where
  f : Sm → Row → Fr → Hp → AV → ab
def auu : Pt := ⟨fun k sk fr hp _=>k.run sk fr hp⟩
def ptTmp : Pt := ⟨fun k sk fr hp v=>k.run (.nd v .lf sk) fr hp⟩
def ptVar (i : Nat) : Pt := let s := abA i; ⟨fun k sk fr hp v=>s.f fr v fun fr=>k.run sk fr hp⟩
def eX (d i : Nat) (l : List (Nat × Src)) : List (Nat × Src) := List.rec (motive := fun _=>List (Nat × Src)) []
  (fun a _ ih=>Bool.rec (motive := fun _=>List (Nat × Src)) (Src.rec (motive := fun _=>List (Nat × Src)) (fun _=>a :: ih) (fun _=>a :: ih) (fun j=>Bool.rec (motive := fun _=>List (Nat × Src)) (a :: ih) ih (Nat.beq j i)) ih a.2) ih (Nat.beq a.1 d)) l
def dropKey (d : Nat) (l : List (Nat × Src)) : List (Nat × Src) := List.rec (motive := fun _=>List (Nat × Src)) [] (fun a _ ih=>Bool.rec (motive := fun _=>List (Nat × Src)) (a :: ih) ih (Nat.beq a.1 d)) l
structure PG where
  p : Pt
  g : G
def age : Pt := ⟨fun _ _ _ _ _=>.fail⟩
def dst (C : Cx) (g : G) : Option Nat → PG
  | none=>⟨auu,g⟩
  | some d=>Bool.rec (motive := fun _=>PG) ⟨age,g⟩ (dstOf C g d) (Nat.ble (Nat.succ d) C.nt)
where dstOf (C : Cx) (g : G) (d : Nat) : PG := match idxOf d C.vars 0 with
    | .f i=>⟨ptVar i,⟨g.d,eX d i g.m⟩⟩
    | _=>⟨ptTmp,⟨Nat.succ g.d,(d,.s g.d) :: dropKey d g.m⟩⟩
def bT : Sm := ⟨fun _ _ _=>.fail⟩
def cI : AV := .bu .lf 0
section ops
variable (C : Cx) (g : G) (P : Pt) (N : NK) (k : Sm)
def nP {α : Type} (l : List α) : Nat → Option α := List.rec (motive := fun _=>Nat → Option α) (fun _=>none) (fun a _ ih i=>Nat.rec (motive := fun _=>Option α) (some a) (fun j _=>ih j) i) l
def eP (P : Program) (t : TypeId) : Option TypeInfo := nP P.types.toList t
def anD (P : Program) (_ : TypeInfo) : TypeDesc → Option TypeDesc
  | .named _ u=>Option.rec (motive := fun _=>Option TypeDesc) none (fun j=>some j.desc) (eP P u)
  | d=>some d
def dN (P : Program) (t : TypeId) : Option TypeDesc := Option.rec (motive := fun _=>Option TypeDesc) none (fun i=>anD P i i.desc) (eP P t)
def ba (P : Program) (t : TypeId) : Nat := Option.rec (motive := fun _=>Nat) 0 (fun i=>i.size) (eP P t)
def isAgg (P : Program) (t : TypeId) : Bool := match dN P t with | some (.struct _) | some (.array ..)=>true | _=>false
def slT (P : Program) (t : TypeId) : Option TypeId := match dN P t with | some (.slice e)=>some e | _=>none
def a4d (P : Program) (t : TypeId) : Bool := match dN P t with | some (.int .u8)=>true | _=>false
def known (P : Program) (t : TypeId) : Bool := Option.rec (motive := fun _=>Bool) false (fun _=>true) (dN P t)
def iff (b : Bool) (s : Sm) : Sm := Bool.rec (motive := fun _=>Sm) bT s b
def allF (f : Field → Bool) (l : List Field) : Bool := List.rec (motive := fun _=>Bool) true (fun a _ ih=>bp (f a) ih) l
def allP (n : Nat) (l : List (Nat × Operand)) : Bool := List.rec (motive := fun _=>Bool) true (fun a _ ih=>bp (Nat.ble (Nat.succ a.1) n) ih) l
def a3u (o z : Nat → Nat) (n : Nat) (l : List (Nat × Operand)) : Bool := List.rec (motive := fun _=>Bool) true (fun a _ ih=>bp (Nat.ble (Nat.add (o a.1) (z a.1)) n) ih) l
def ae4 (P : Program) (t : TypeId) : Nat := match dN P t with | some (.array _ e)=>ba P e | _=>ba P t
def cN (P : Program) (t : TypeId) : AV := match (eP P t).bind (·.zero) with | some v=>fP v | none=>.uu
def eT (P : Program) (t : TypeId) : AV := match cN P t with | .agg (.nd v _ .lf) 1=>v | v=>v
def a6o (P : Program) (t : TypeId) : Row := match cN P t with | .agg l _=>l | v=>.nd v .lf .lf
def dY (P : Program) (t : TypeId) (z : Nat) : Bool := match cN P t with | .agg _ n=>Nat.beq n z | .x 0 _ _ _ _=>false | _=>Nat.beq z 1
def bytesOf (P : Program) (t : TypeId) : Nat := Option.rec (motive := fun _=>Nat) 0 (fun i=>i.bytes) (eP P t)
def fG (fs : Array Field) (f : Nat) : Nat := Option.rec (motive := fun _=>Nat) 0 (fun x=>x.offset) (nP fs.toList f)
def gB (fs : Array Field) (f : Nat) : TypeId := Option.rec (motive := fun _=>TypeId) 0 (fun x=>x.type) (nP fs.toList f)
def c1 (x : Operand) (f : AV → (AV → ab) → ab) : Sm := let a := iz C g x; ⟨fun sk fr hp=>a.get sk fr fun a=>f a fun v=>P.f k sk fr hp v⟩
def c1h (x : Operand) (f : AV → Hp → (AV → Hp → ab) → ab) : Sm := let a := iz C g x; ⟨fun sk fr hp=>a.get sk fr fun a=>f a hp fun v hp=>P.f k sk fr hp v⟩
def c2 (x y : Operand) (f : AV → AV → (AV → ab) → ab) : Sm := let a := iz C g x; let b := iz C g y; ⟨fun sk fr hp=>a.get sk fr fun a=>b.get sk fr fun b=>f a b fun v=>P.f k sk fr hp v⟩
def c2h (x y : Operand) (f : AV → AV → Hp → (AV → Hp → ab) → ab) : Sm := let a := iz C g x; let b := iz C g y; ⟨fun sk fr hp=>a.get sk fr fun a=>b.get sk fr fun b=>f a b hp fun v hp=>P.f k sk fr hp v⟩
def akO (x : Operand) : Sm := let a := iz C g x; ⟨fun sk fr hp=>a.get sk fr fun v=>P.f k sk fr hp v⟩
def akP (c x y : Operand) : Sm := let c := iz C g c; let a := iz C g x; let b := iz C g y; ⟨fun sk fr hp=>c.get sk fr fun v=>v.aJ fun t=>when t (a.get sk fr fun v=>P.f k sk fr hp v) (b.get sk fr fun v=>P.f k sk fr hp v)⟩
def adg (t : TypeId) (a : Rd) : Sm := let n := ba C.P t; let z := ae4 C.P t; ⟨fun sk fr hp=>a.get sk fr fun a=>dU C.M N a z n hp fun v hp=>P.f k sk fr hp v⟩
structure Part where
  o : Nat
  sz : Nat
  x : Rd
structure UK where
  f : Row → Fr → Row → (Row → ab) → ab
def uk (l : List Part) : UK := List.rec (motive := fun _=>UK) ⟨fun _ _ t k=>k t⟩ (fun p _ ih=>⟨fun sk fr t k=>p.x.get sk fr fun v=>xZ p.o p.sz t v fun t=>ih.f sk fr t k⟩) l
def partsOf (ps : List (Nat × Operand)) (o z : Nat → Nat) : List Part := List.rec (motive := fun _=>List Part) [] (fun p _ ih=>⟨o p.1,z p.1,iz C g p.2⟩ :: ih) ps
def adb (q : UK) (z : Row) (n : Nat) : Sm := ⟨fun sk fr hp=>q.f sk fr z fun l=>P.f k sk fr hp (.agg l n)⟩
def a0O (t : TypeId) (ps : Array (Nat × Operand)) : Sm :=
  match dN C.P t with
  | some (.struct fs)=>iff (bp (dY C.P t (ba C.P t)) (bp (allF (fun f=>known C.P f.type) fs.toList) (bp (allP fs.size ps.toList) (a3u (fG fs) (fun i=>ba C.P (gB fs i)) (ba C.P t) ps.toList)))) <| adb P k (uk (partsOf C g ps.toList (fG fs) fun i=>ba C.P (gB fs i))) (a6o C.P t) (ba C.P t)
  | some (.array _ e)=>iff (bp (dY C.P t (ba C.P t)) (bp (known C.P e) (a3u (fun i=>i * ba C.P e) (fun _=>ba C.P e) (ba C.P t) ps.toList))) <| adb P k (uk (partsOf C g ps.toList (fun i=>i * ba C.P e) fun _=>ba C.P e)) (a6o C.P t) (ba C.P t)
  | _=>bT
structure VK where
  f : Row → Fr → Row → Bool → (Row → Bool → ab) → ab
def vk (M : Mem) (z : Nat) (l : List Part) : VK := List.rec (motive := fun _=>VK) ⟨fun _ _ t f k=>k t f⟩ (fun p _ ih=>⟨fun sk fr t f k=>p.x.get sk fr fun v=>wrV M z z t p.o v fun t b=>ih.f sk fr t (bp f b) k⟩) l
def gJ (t : TypeId) (len : Nat) (ps : Array (Nat × Operand)) : Sm := match slT C.P t with
  | none=>bT
  | some e=>let z := ba C.P e; let q := vk C.M z (partsOf C g ps.toList (fun i=>i * z) fun _=>z); let r0 := Tr.full (eT C.P e) (depth len); let s := len * z
    iff (bp (Nat.ble 1 z) (bp (dY C.P e z) (bp (Nat.ble s 16777216) (a3u (fun i=>i * z) (fun _=>z) s ps.toList)))) ⟨fun sk fr hp=>q.f sk fr r0 true fun r f=>N.f hp (.row true f z s r) fun id hp=>P.f k sk fr hp (.ms id 0 len z)⟩
def a39 (t : TypeId) (x : Operand) : Sm := let z := ba C.P t; let ag := isAgg C.P t; let a := iz C g x; Bool.rec (motive := fun _=>Sm) bT ⟨fun sk fr hp=>a.get sk fr fun a=>aI C.M ag z a hp fun v=>P.f k sk fr hp v⟩ (known C.P t)
def a6I (t : TypeId) (x y : Operand) : Sm := let z := ba C.P t; let a := iz C g x; let b := iz C g y; iff (Nat.ble 1 z) ⟨fun sk fr hp=>a.get sk fr fun a=>b.get sk fr fun v=>bk C.M z a v hp fun hp=>P.f k sk fr hp cI⟩
def zq (x : Operand) : Sm := c1 C g P k x fun v k=>v.on (fun _ _=>.fail) (fun _=>.fail) (fun _ _=>.fail) (fun _ _=>k v) (fun _ _ _ _=>.fail) (fun _ _ _ _=>.fail) (fun _ _=>.fail) (fun _ _=>.fail) (fun g _ _ _ _=>au (Nat.beq g 1 || Nat.beq g 3 || Nat.beq g 5 || Nat.beq g 12) (k v))
def yH (a b : List Nat) : List Nat := List.rec (motive := fun _=>List Nat) b (fun x _ ih=>x :: ih) a
def gR (f : TypeId → Option (List Nat)) (l : List Field) : Nat → Option (List Nat) := List.rec (motive := fun _=>Nat → Option (List Nat)) (fun _=>some [])
  (fun x _ ih o=>Bool.rec (motive := fun _=>Option (List Nat)) none (Option.rec (motive := fun _=>Option (List Nat)) none (fun a=>Option.rec (motive := fun _=>Option (List Nat)) none (fun b=>some (yH a b)) (ih (o + a.length))) (f x.type)) (bp (Nat.beq x.offset o) (de (x.name == "_")))) l
def a1K (n : Nat) (a : List Nat) : List Nat := Nat.rec (motive := fun _=>List Nat) [] (fun _ ih=>yH a ih) n
def chkO (n : Nat) (o : Option (List Nat)) : Option (List Nat) := Option.rec (motive := fun _=>Option (List Nat)) none (fun l=>Bool.rec (motive := fun _=>Option (List Nat)) none (some l) (Nat.beq l.length n)) o
def nO (P : Program) (d : Nat) : TypeId → Option (List Nat) := Nat.rec (motive := fun _=>TypeId → Option (List Nat)) (fun _=>none) (fun _ ih t=>chkO (ba P t) (match dN P t with
    | some .bool=>some [0]
    | some .string=>some [1]
    | some (.int q)=>some [kc q + 2]
    | some (.struct fs)=>Bool.rec (motive := fun _=>Option (List Nat)) none (gR ih fs.toList 0) (de (P.stoodInHeld t))
    | some (.array n e)=>Option.rec (motive := fun _=>Option (List Nat)) none (fun a=>some (a1K n a)) (ih e)
    | _=>none)) d
def ow (P : Program) (t : TypeId) : EqP := match dN P t with
  | some .bool=>.cell 0
  | some (.pointer _)=>.nil 0
  | some (.slice _)=>.nil 1
  | some (.func ..)=>.nil 2
  | some (.map ..)=>.nil 3
  | some (.struct _) | some (.array ..)=>Option.rec (motive := fun _=>EqP) .no (fun l=>.cells l) (nO P 20 t)
  | _=>.no
def mV (P : Program) (t : TypeId) : Option Nat := match dN P t with
  | some .bool=>some 0
  | some .string=>some 1
  | some (.int q)=>some (kc q + 2)
  | _=>none
def a1h : Operand → Bool
  | .const .nilIface=>true
  | _=>false
def isIface (P : Program) (t : TypeId) : Bool := match dN P t with | some (.interface _)=>true | _=>false
def a8P (op : BinOp) (x : Operand) : Sm := match op with
  | .eql=>c1 C g P k x fun a k=>a7P 4 a fun b=>k (.bool b)
  | .neq=>c1 C g P k x fun a k=>a7P 4 a fun b=>k (.bool (de b))
  | _=>bT
def a34 (op : BinOp) (t : TypeId) (x y : Operand) : Sm :=
  let f : BK := match dN C.P t with
    | some (.int ik)=>ar op (kc ik)
    | some .string=>gM op
    | _=>yX (ow C.P t) op
  let a := iz C g x; let b := iz C g y; ⟨fun sk fr hp=>a.get sk fr fun a=>b.get sk fr fun b=>f.f a b fun v=>P.f k sk fr hp v⟩
def cBin (op : BinOp) (t : TypeId) (x y : Operand) : Sm := Bool.rec (motive := fun _=>Sm) (a34 C g P k op t x y) (a8P C g P k op x) (bp (isIface C.P t) (a1h y))
def cUn (op : UnOp) (x : Operand) : Sm := match op with
  | .neg=>c1 C g P k x fun a k=>a.bO fun i n=>bQ i (Nat.mod (Nat.sub (md i) n) (md i)) k
  | .xor=>c1 C g P k x fun a k=>a.bO fun i n=>bQ i (Nat.sub (Nat.sub (md i) 1) n) k
  | .not=>c1 C g P k x fun a k=>a.aJ fun b=>k (.bool (de b))
  | _=>bT
def a8R (s d : TypeId) (x : Operand) : Sm := match dN C.P s,dN C.P d with
  | some (.int _),some (.int kk)=>let j := kc kk; let M' := md j; c1 C g P k x fun a k=>a.bO fun i n=>bQ j (yz (md i) (hf i) M' n) k
  | some .string,some .string=>c1 C g P k x fun a k=>a.eE fun s n=>k (.str s n)
  | some .string,some (.slice e)=>iff (a4d C.P e) <| c1h C g P k x fun a hp k=>a.eE fun s n=>(unpack C.M n).f s 0 .lf fun r=>N.f hp (.row true true 1 n r) fun id hp=>k (.ms id 0 n 1) hp
  | some (.slice e),some .string=>iff (a4d C.P e) <| c1h C g P k x fun a hp k=>a.eD (fun _ _ _ _=>lD C.M 1 a hp fun t o n _=>(pack C.M n).f t o fun s=>k (.str s n) hp) (fun _ _ _ _=>lD C.M 1 a hp fun t o n _=>(pack C.M n).f t o fun s=>k (.str s n) hp) (fun g=>au (Nat.beq g 8 || Nat.beq g 6) (k (.str 0 0) hp)) (fun _ _=>.fail)
  | some (.slice _),some (.slice e)=>iff (bp (Nat.beq s d) (a4d C.P e)) <| c1h C g P k x fun a hp k=>a.eD (fun b _ n _=>au (Nat.ble 1 n) (hp.own C.M b 0 fun _ _ _ _=>k a hp)) (fun _ _ _ _=>.fail) (fun _=>.fail) (fun _ _=>.fail)
  | _,_=>bT
structure AK where
  f : Row → Fr → (Row → ab) → ab
def ak (l : List Rd) : AK := List.rec (motive := fun _=>AK) ⟨fun _ _ k=>k .lf⟩ (fun x _ ih=>⟨fun sk fr k=>x.get sk fr fun v=>ih.f sk fr fun r=>k (.nd v .lf r)⟩) l
def akN (f : FuncId) (a b : Array Operand) : Sm := let q := ak ((a.toList ++ b.toList).map (iz C g)); let n := a.size; let m := b.size; ⟨fun sk fr hp=>q.f sk fr fun l=>P.f k sk fr hp (.x 3 l f n m)⟩
def tz (t : TypeId) (x : Operand) : Sm := let a := iz C g x; iff (match dN C.P t with | some (.map ..)=>true | _=>false) ⟨fun sk fr hp=>a.get sk fr fun v=>v.bO fun _ _=>N.f hp (.map 0 .lf) fun id hp=>P.f k sk fr hp (.x 4 .lf id 0 0)⟩
def a3a : Sm := ⟨fun sk fr hp=>N.f hp (.map 0 .lf) fun id hp=>P.f k sk fr hp (.x 4 .lf id 0 0)⟩
def mJ (t : TypeId) (x y : Operand) : Sm := match slT C.P t with
  | none=>bT
  | some e=>let z := ba C.P e; let v := eT C.P e; iff (bp (Nat.ble 1 z) (bp (dY C.P e z) (Nat.ble (bytesOf C.P e) 65536))) <| c2h C g P k x y fun a b hp k=>gL b 1073741824 fun m=>gL a m fun n=>aL (Nat.mul n z) fun s=>N.f hp (.row true true z s (Tr.full v (depth n))) fun id hp=>k (.ms id 0 n z) hp
structure OK where
  f : Row → Fr → (Option AV → ab) → ab
def n8 (x : Option Operand) : OK := match x with | none=>⟨fun _ _ k=>k none⟩ | some x=>let a := iz C g x; ⟨fun sk fr k=>a.get sk fr fun v=>k (some v)⟩
def a0R (t : TypeId) (x : Operand) (lo hi mx : Option Operand) : Sm :=
  let a := iz C g x; let l := n8 C g lo; let h := n8 C g hi; let m := n8 C g mx
  match dN C.P t with
  | some (.array n e)=>let z := ba C.P e; iff (Nat.ble 1 z) ⟨fun sk fr hp=>a.get sk fr fun v=>l.f sk fr fun l=>h.f sk fr fun h=>m.f sk fr fun m=>v.qe (fun b o=>hp.use C.M b (Nat.add o (Nat.mul n z)) fun _ _ _ _ _=>eS z (.ms b o n z) l h m fun v=>P.f k sk fr hp v) (fun t o c y=>au (Nat.beq y z) (au (Nat.beq (Nat.mod o z) 0) (au (Nat.ble (Nat.mul n z) c) (eS z (.vs t (Nat.div o z) n z) l h m fun v=>P.f k sk fr hp v))))⟩
  | some (.slice e)=>let z := ba C.P e; iff (Nat.ble 1 z) ⟨fun sk fr hp=>a.get sk fr fun v=>l.f sk fr fun l=>h.f sk fr fun h=>m.f sk fr fun m=>eS z v l h m fun v=>P.f k sk fr hp v⟩
  | some .string=>iff (Option.rec (motive := fun _=>Bool) true (fun _=>false) mx) ⟨fun sk fr hp=>a.get sk fr fun v=>l.f sk fr fun l=>h.f sk fr fun h=>fc v l h fun v=>P.f k sk fr hp v⟩
  | _=>bT
def mH (t : TypeId) (x : Operand) (f : Nat) : Sm := match dN C.P t with
  | some (.struct fs)=>let off := fG fs f; let a := iz C g x; iff (bp (Nat.ble (Nat.succ f) fs.size) (Nat.ble 1 (ba C.P (gB fs f)))) ⟨fun sk fr hp=>a.get sk fr fun a=>fieldAddr off a fun v=>P.f k sk fr hp v⟩
  | _=>bT
def a0P (t : TypeId) (x : Operand) (f : Nat) : Sm := match dN C.P t with
  | some (.struct fs)=>let off := fG fs f; let z := ba C.P (gB fs f); let ag := isAgg C.P (gB fs f); iff (bp (Nat.ble (Nat.succ f) fs.size) (known C.P (gB fs f))) <| c1 C g P k x fun a k=>uR ag z off a k
  | _=>bT
def mI (t : TypeId) (x i : Operand) : Sm := match dN C.P t with
  | some (.array n e)=>let z := ba C.P e; iff (Nat.ble 1 z) <| c2 C g P k x i fun a j k=>km z n a j k
  | some (.slice e)=>let z := ba C.P e; iff (Nat.ble 1 z) <| c2 C g P k x i fun a j k=>indexAddr z a j k
  | _=>bT
def a0Q (t : TypeId) (x i : Operand) : Sm := match dN C.P t with
  | some (.array n e)=>let z := ba C.P e; let ag := isAgg C.P e; iff (known C.P e) <| c2 C g P k x i fun a j k=>iG j n fun j=>uR ag z (Nat.mul j z) a k
  | some .string=>c2 C g P k x i fun a j k=>a.eE fun s n=>iG j n fun j=>bQ 4 (Nat.mod (Nat.div s (Nat.pow 256 j)) 256) k
  | _=>bT
def vE (t : TypeId) (x i : Operand) (ok : Bool) : Sm := match dN C.P t with
  | some (.map kt e)=>match mV C.P kt with
   | none=>bT
   | some c=>let zv := cN C.P e; c2h C g P k x i fun m key hp k=>m.onX fun q _ b _ _=>au (Nat.beq q 4) (hp.get C.M b fun B=>B.kY fun n t=>
      (rM C.M c n).f t 0 key (fun j=>C.M.rg.f t (Nat.succ j) fun v=>when ok (k (.bu (.nd v .lf (.nd (.bool true) .lf .lf)) 2) hp) (k v hp)) (au (dS zv) (when ok (k (.bu (.nd zv .lf (.nd (.bool false) .lf .lf)) 2) hp) (k zv hp))))
  | _=>bT
def kX (b : Nat) (hp : Hp) (k : ab) : ab := Hp.rec (motive := fun _=>ab) (fun _ _ pr _=>uO b pr k) hp
def mK (t : TypeId) (m key x : Operand) : Sm := let a := iz C g m; let b := iz C g key; let y := iz C g x
  match dN C.P t with
  | some (.map kt _)=>match mV C.P kt with
   | none=>bT
   | some c=>⟨fun sk fr hp=>a.get sk fr fun m=>b.get sk fr fun key=>y.get sk fr fun v=>m.onX fun q _ b _ _=>au (Nat.beq q 4) (kX b hp (hp.get C.M b fun B=>B.kY fun n t=>
      (rM C.M c n).f t 0 key (fun j=>C.M.rs.f t (Nat.succ j) v fun t=>hp.put C.M b (.map n t) fun hp=>P.f k sk fr hp cI)
        (C.M.rs.f t (Nat.mul 2 n) key fun t=>C.M.rs.f t (Nat.succ (Nat.mul 2 n)) v fun t=>hp.put C.M b (.map (Nat.succ n) t) fun hp=>P.f k sk fr hp cI)))⟩
  | _=>bT
def a36 (x : Operand) (i : Nat) : Sm := let a := iz C g x; let e := a5N i; ⟨fun sk fr hp=>a.get sk fr fun v=>v.xJ fun t _=>e.get t fr fun v=>P.f k sk fr hp v⟩
def a18 (f : Nat) : aF := List.rec (motive := fun _=>aF) ju (fun a _ ih=>Bool.rec (motive := fun _=>aF) ih a.2 (Nat.beq a.1 f)) C.fn
def aho (f : Nat) : Bool := List.rec (motive := fun _=>Bool) false (fun a _ ih=>Bool.rec (motive := fun _=>Bool) ih true (Nat.beq a f)) C.sh
def ahP (f i : Nat) : gP := List.rec (motive := fun _=>gP) nM (fun a _ ih=>Bool.rec (motive := fun _=>gP) ih (Bool.rec (motive := fun _=>gP) ih a.2.2 (Nat.beq a.2.1 i)) (Nat.beq a.1 f)) C.yl
def yx (M : Mem) (b : Nat) (pr : List Nat) (rb st : Nat) (v : Bool) (h : Hp) (k : AV → Hp → ab) : ab :=
  h.get M b fun B=>B.tT fun s f i fr=>au (Nat.beq s 1) (h.put M b (.loop st f i fr) fun h=>Hp.rec (motive := fun _=>ab) (fun t nx _ _=>k (.bool v) ⟨t,nx,pr,rb⟩) h)
def ab0 (M : Mem) (b : Nat) (pr : List Nat) (rb : Nat) (Y : gP) (fr1 : Fr) (h1 : Hp) (k : AV → Hp → ab) : ab :=
  h1.get M b fun B=>B.tT fun st f i fr=>au (Nat.beq st 0) (h1.put M b (.loop 1 f i fr) fun h2=>
    ab.rec (motive := fun _=>ab) (fun _ h3=>yx M b pr rb 0 true h3 k) (fun n _ h3=>yx M b pr rb (Nat.add n 3) false h3 k) (fun _ h3=>yx M b pr rb 2 false h3 k) (fun _ _=>.fail) .fail (Y.g fr1 h2))
def ahQ (b : Nat) (l : Row) (hp : Hp) (k : AV → Hp → ab) : ab :=
  kX b hp (hp.get C.M b fun B=>B.tT fun st f i fr=>au (Nat.beq st 0)
    (ab.rec (motive := fun _=>ab) (fun fr1 h1=>Hp.rec (motive := fun _=>ab) (fun _ _ pr rb=>ab0 C.M b pr rb (ahP C f i) fr1 h1 k) hp) (fun _ _ _=>.fail) (fun _ _=>.fail) (fun _ _=>.fail) .fail ((ahP C f i).f fr l hp)))
def app (a b : Row) (k : Row → ab) : ab := Tr.rec (motive := fun _=>(Row → ab) → ab) (fun k=>k b) (fun v _ _ _ ih k=>ih fun r=>k (.nd v .lf r)) a k
def ub (n : Nat) (a b : Row) (k : Row → ab) : ab := Nat.rec (motive := fun _=>Row → (Row → ab) → ab) (fun a k=>app b a k) (fun _ ih a k=>Tr.rec (motive := fun _=>ab) .fail (fun v _ r _ _=>ih r fun r=>k (.nd v .lf r)) a) n a k
def a8Q (f : Operand) (as : Array Operand) : Sm := let q := ak (as.toList.map (iz C g)); match f with
  | .func f=>let F := a18 C f; let sh := aho C f; ⟨fun sk fr hp=>q.f sk fr fun l=>aH C.M sh F l hp fun v hp=>P.f k sk fr hp v⟩
  | f => let a := iz C g f; ⟨fun sk fr hp => a.get sk fr fun fv => fv.onX fun i u f n _ => q.f sk fr fun l => when (Nat.beq i 3) (ub n u l fun l => aH C.M (aho C f) (a18 C f) l hp fun v hp => P.f k sk fr hp v)
      (au (Nat.beq i 5) (ahQ C f l hp fun v hp=>P.f k sk fr hp v))⟩
def cLen (q : Nat) (x : Operand) : Sm := let a := iz C g x; ⟨fun sk fr hp=>a.get sk fr fun a=>dX C.M q a hp fun n=>au (Nat.ble n 9223372036854775807) (P.f k sk fr hp (.int 3 n))⟩
def aeF (t : TypeId) : Bool := match dN C.P t with | some (.slice _) | some .string=>true | _=>false
def rA (b : Builtin) (ts : List TypeId) (as : List Operand) : Sm :=
  match b,ts,as with
  | .len,t :: _,[x]=>(match dN C.P t with
    | some (.array n _)=>iff (Nat.ble n 9223372036854775807) ⟨fun sk fr hp=>P.f k sk fr hp (.int 3 n)⟩
    | some .string=>cLen C g P k 0 x
    | some (.slice _)=>cLen C g P k 1 x
    | some (.map ..)=>cLen C g P k 2 x
    | _=>bT)
  | .append,[t,u],[x,y]=>(match slT C.P t with
    | some e=>let z := ba C.P e; iff (bp (Nat.ble (bytesOf C.P e) 65536) (bp (Nat.ble 1 z) (dY C.P e z))) <| (match dN C.P u with
      | some (.int _)=>let v := eT C.P e; c2h C g P k x y fun a b hp k=>a.onX fun q _ _ _ _=>au (Nat.beq q 8) (gL b 1073741824 fun n=>au (Nat.ble 1 n) (aL (Nat.mul n z) fun s=>N.f hp (.row true true z s (Tr.full v (depth n))) fun id hp=>k (.ms id 0 n z) hp))
      | _=>iff (aeF C u) <| c2h C g P k x y fun a b hp k=>cT C.M N z a b hp k)
    | none=>bT)
  | .cap,t :: _,[x]=>(match slT C.P t with
    | some _=>c1 C g P k x fun a k=>a.onX fun q _ _ _ _=>au (Nat.beq q 8 || Nat.beq q 6) (k (.int 3 0))
    | none=>bT)
  | .copy,t :: _,[x,y]=>(match slT C.P t with
    | some e=>let z := ba C.P e; iff (Nat.ble 1 z) <| c2h C g P k x y fun a b hp k=>akR C.M z a b hp fun n hp=>au (Nat.ble n 9223372036854775807) (k (.int 3 n) hp)
    | none=>bT)
  | .clear,t :: _,[x]=>(match slT C.P t with
    | some e=>let z := ba C.P e; let zr := eT C.P e; iff (bp (Nat.ble 1 z) (dY C.P e z)) <| c1h C g P k x fun a hp k=>ado C.M z zr a hp fun hp=>k cI hp
    | none=>bT)
  | .min,_,[x,y]=>c2 C g P k x y fun a b k=>a.bO fun i m=>b.bO fun j n=>au (Nat.beq i j) (when (Nat.ble (Nat.mod (Nat.add m (hf i)) (md i)) (Nat.mod (Nat.add n (hf i)) (md i))) (k (.int i m)) (k (.int i n)))
  | .max,_,[x,y]=>c2 C g P k x y fun a b k=>a.bO fun i m=>b.bO fun j n=>au (Nat.beq i j) (when (Nat.ble (Nat.mod (Nat.add m (hf i)) (md i)) (Nat.mod (Nat.add n (hf i)) (md i))) (k (.int i n)) (k (.int i m)))
  | _,_,_=>bT
end ops
def ix (C : Cx) (g : G) (P : Pt) (N : NK) (k : Sm) (op : Op) : Sm := match op with
  | .move x | .assign x=>akO C g P k x
  | .pick c a b=>akP C g P k c a b
  | .alloc t=>adg C P N k t ⟨fun _ _ k=>k (cN C.P t)⟩
  | .box t x=>adg C P N k t (iz C g x)
  | .build t ps=>a0O C g P k t ps
  | .buildSlice t n ps=>gJ C g P N k t n ps
  | .load t a=>a39 C g P k t a
  | .store t a x=>a6I C g P k t a x
  | .nilCheck x=>zq C g P k x
  | .binOp op t x y _=>cBin C g P k op t x y
  | .unOp op _ x=>cUn C g P k op x
  | .convert s d x=>a8R C g P N k s d x
  | .makeFunc (.func f) a b=>akN C g P k f a b
  | .makeMap _ none=>a3a P N k
  | .makeMap t (some x)=>tz C g P N k t x
  | .makeSlice t a b=>mJ C g P N k t a b
  | .slice t x lo hi mx=>a0R C g P k t x lo hi mx
  | .fieldAddr t x f=>mH C g P k t x f
  | .field t x f=>a0P C g P k t x f
  | .indexAddr t x i=>mI C g P k t x i
  | .index t x i=>a0Q C g P k t x i
  | .lookup t x i ok=>vE C g P k t x i ok
  | .mapUpdate t m key x=>mK C g P k t m key x
  | .extract x i=>a36 C g P k x i
  | .call c=>(match c.callee with
    | .builtin b=>rA C g P N k b c.argTypes.toList c.args.toList
    | .value f=>a8Q C g P k f c.args
    | .invoke .. => bT)
  | _=>bT
def guarded (C : Cx) (g : G) (P : Pt) (k s : Sm) (t : Option Nat) (want : Bool) : Sm := match t with
  | none=>bT
  | some t=>let a := aca g.d (look C g t)
    ⟨fun sk fr hp=>a.get sk fr fun v=>v.on (fun _ _=>.fail) (fun b=>when (a0M b want) (P.f k sk fr hp cI) (s.run sk fr hp)) (fun _ _=>.fail) (fun _ _=>.fail) (fun _ _ _ _=>.fail) (fun _ _ _ _=>.fail) (fun _ _=>.fail) (fun _ _=>P.f k sk fr hp cI) (fun _ _ _ _ _=>.fail)⟩
def writes (t : Nat) (l : List Oper) : Bool := List.rec (motive := fun _=>Bool) false (fun o _ ih=>Option.rec (motive := fun _=>Bool) ih (fun d=>Bool.rec (motive := fun _=>Bool) ih true (Nat.beq d t)) o.dst) l
def alias (C : Cx) (g : G) (o : Oper) (rest : List Oper) : Option (Nat × Src) :=
  match o.guard,o.dst,o.op with
  | none,some d,.move x | none,some d,.assign x=>if isVar C d then none else
    (match src C g x with
     | .c v=>some (d,.c v)
     | .s l=>some (d,.s l)
     | .f i=>(match x with | .tmp t=>if writes t rest then none else some (d,.f i) | _=>none)
     | .no=>none)
  | _,_,_=>none
def a71 (C : Cx) (ops : Array Oper) (g : G) (N : NK) (o : Oper) (rest : List Oper) (k : G → Sm) : Sm :=
  match alias C g o rest with
  | some a=>iff (Nat.ble (Nat.succ a.1) C.nt) (k ⟨g.d,a :: dropKey a.1 g.m⟩)
  | none=>(match dst C g o.dst with
    | ⟨P,g'⟩=>(match o.guard with
      | none=>ix C g P N (k g') o.op
      | some (j,want)=>guarded C g P (k g') (ix C g P N (k g') o.op) ((ops[j]?).bind (·.dst)) want))
def jm (C : Cx) (ops : Array Oper) (l : List Oper) (g : G) (k : G → Sm) : Sm :=
  List.rec (motive := fun _=>G → Sm) k (fun o r ih g=>a71 C ops g (br C.M) o r ih) l g
end
end Go.Proofs.YtpiokjcbadfalaaGreatDoor.Ev
namespace Go.Proofs.YtpiokjcbadfalaaGreatDoor.Ev
noncomputable section
def vg {α : Type} (d : α) (l : List α) : Nat → α := List.rec (motive := fun _=>Nat → α) (fun _=>d) (fun a _ ih i=>Nat.rec (motive := fun _=>α) a (fun j _=>ih j) i) l
def bit (m i : Nat) : Bool := Nat.beq (Nat.mod (Nat.div m (Nat.pow 2 i)) 2) 1
def aY (a b : Bool) : Bool := Bool.rec (motive := fun _=>Bool) false b a
def uY {α : Type} (f : α → Bool) (l : List α) : Bool := List.rec (motive := fun _=>Bool) true (fun a _ ih=>aY (f a) ih) l
def gQ (e : Edge) : Bool := Region.binds .any e
def gX (l : List Nat) (n : Nat) (es : List Edge) : Nat := List.rec (motive := fun _=>Nat) 0 (fun e _ ih=>Bool.rec (motive := fun _=>Nat) ih (Nat.lor ih (Nat.lor (Nat.pow 2 e.on) (vg 0 l (Nat.sub (Nat.sub n 1) e.on)))) (gQ e)) es
def gY (ops : List Oper) : List Nat → Nat → List Nat := List.rec (motive := fun _=>List Nat → Nat → List Nat) (fun acc _=>acc) (fun o _ ih acc n=>ih (gX acc n o.after.toList :: acc) (Nat.succ n)) ops
def nY (ops : List Oper) : Nat → Bool := List.rec (motive := fun _=>Nat → Bool) (fun _=>true) (fun o _ ih n=>aY (uY (fun e=>Bool.rec (motive := fun _=>Bool) true (Nat.ble (Nat.succ e.on) n) (gQ e)) o.after.toList) (ih (Nat.succ n))) ops
def cls (P : Program) : Op → Nat
  | .move .. | .pick .. | .assign .. | .fieldAddr .. | .field .. | .indexAddr .. | .index .. | .unOp .. | .binOp .. | .extract .. | .makeFunc .. | .nilCheck .. | .build .. => 0
  | .slice t .. => match dN P t with | some (.array ..)=>1 | _=>0
  | .load .. | .lookup .. => 1
  | .alloc .. | .box .. | .buildSlice .. | .makeSlice .. | .makeMap .. => 2
  | .convert s d _=>match dN P s,dN P d with
    | some (.slice _),some .string=>1
    | some .string,some (.slice _)=>2
    | some (.slice _),some (.slice _)=>6
    | _,_=>0
  | .store .. | .mapUpdate .. => 3
  | .call c=>match c.callee with
    | .builtin .len=>(match dN P (c.argTypes.getD 0 0) with | some (.map ..)=>1 | _=>0)
    | .builtin .min | .builtin .max=>0
    | .builtin .append | .builtin .copy | .builtin .clear=>3
    | .builtin _=>6
    | .invoke .. => 6
    | .value _=>3
  | _=>6
def spot : Op → Option Operand
  | .load _ a=>some a
  | .lookup _ a _ _=>some a
  | .convert _ _ x=>some x
  | .slice _ x _ _ _=>some x
  | .call c=>c.args[0]?
  | _=>none
def tmpsOf (l : List Operand) : List Nat := List.rec (motive := fun _=>List Nat) [] (fun x _ ih=>match x with | .tmp t=>t :: ih | _=>ih) l
def jM (ops : Array Oper) (o : Oper) : List Nat := match o.guard with
  | none=>tmpsOf o.op.operands.toList
  | some (j,_)=>match (ops[j]?).bind (·.dst) with | some t=>t :: tmpsOf o.op.operands.toList | none=>tmpsOf o.op.operands.toList
structure Dr where
  i : Nat
  o : Oper
  c : Nat
  m : Nat
  r : List Nat
def drs (P : Program) (ops : Array Oper) (l : List Oper) (ms : List Nat) : Nat → List Dr := List.rec (motive := fun _=>Nat → List Dr) (fun _=>[]) (fun o _ ih i=>⟨i,o,cls P o.op,vg 0 ms i,jM ops o⟩ :: ih (Nat.succ i)) l
def ready (D : Nat) (x : Dr) : Bool := Nat.beq (Nat.land x.m D) x.m
def dJ (i : Nat) (l : List Dr) : List Dr := List.rec (motive := fun _=>List Dr) [] (fun x r ih=>Bool.rec (motive := fun _=>List Dr) (x :: ih) r (Nat.beq x.i i)) l
def sK (D : Nat) (l : List Dr) (no : Option Dr) : Option Dr := List.rec (motive := fun _=>Option Dr) no (fun x _ ih=>Bool.rec (motive := fun _=>Option Dr) ih (some x) (aY (ready D x) (Nat.ble x.c 2))) l
def sI (D : Nat) (l : List Dr) : Option Dr := List.rec (motive := fun _=>Option Dr) none (fun x _ ih=>Bool.rec (motive := fun _=>Option Dr) ih (some x) (ready D x)) l
def order (n : Nat) : Nat → List Dr → List Dr := Nat.rec (motive := fun _=>Nat → List Dr → List Dr) (fun _ _=>[]) (fun _ ih D l=>Option.rec (motive := fun _=>List Dr) [] (fun x=>x :: ih (Nat.lor D (Nat.pow 2 x.i)) (dJ x.i l)) (sK D l (sI D l))) n
def ua (x y : Dr) : Bool := Option.rec (motive := fun _=>Bool) true (fun d=>aY (Option.rec (motive := fun _=>Bool) true (fun e=>de (Nat.beq d e)) y.o.dst)
  (uY (fun t=>Bool.rec (motive := fun _=>Bool) true (Bool.rec (motive := fun _=>Bool) (bit x.m y.i) true (bit y.m x.i)) (Nat.beq t d)) y.r)) x.o.dst
def a1D (x y : Dr) : Bool := Bool.rec (motive := fun _=>Bool) (aY (de (Nat.beq x.c 6)) (aY (de (Nat.beq y.c 6)) (Bool.rec (motive := fun _=>Bool) (Nat.beq y.c 0) true (Nat.ble x.c 2)))) true (bit y.m x.i)
def ag6 (f : Dr → Dr → Bool) (l : List Dr) : Bool := List.rec (motive := fun _=>Bool) true (fun x r ih=>aY (uY (fun y=>f x y) r) ih) l
def tF (l : List Dr) (n : Nat) : Bool := aY (Nat.beq (List.rec (motive := fun _=>Nat) 0 (fun _ _ ih=>Nat.succ ih) l) n) (ag6 (fun x y=>aY (ua x y) (aY (ua y x) (a1D x y))) l)
def la (sk : Row) (fr : Fr) (l : List Rd) : List Nat → (List Nat → ab) → ab := List.rec (motive := fun _=>List Nat → (List Nat → ab) → ab) (fun acc k=>k acc) (fun x _ ih acc k=>x.get sk fr fun v=>v.on (fun _ _=>.fail) (fun _=>.fail) (fun _ _=>ih acc k) (fun b _=>ih (b :: acc) k) (fun b _ _ _=>ih (b :: acc) k) (fun _ _ _ _=>ih acc k) (fun _ _=>.fail) (fun _ _=>.fail)
  (fun g _ b _ _=>when (Nat.beq g 4) (ih (b :: acc) k) (au (Nat.beq g 1 || Nat.ble 6 g) (ih acc k)))) l
def a3X (M : Mem) (l : List Nat) : Hp → List (Nat × bN) → (List (Nat × bN) → Hp → ab) → ab := List.rec (motive := fun _=>Hp → List (Nat × bN) → (List (Nat × bN) → Hp → ab) → ab) (fun hp acc k=>k acc hp)
  (fun i _ ih hp acc k=>aL (Nat.add hp.rb i) fun b=>hp.get M b fun B=>hp.put M b .dead fun hp=>ih hp ((b,B) :: acc) k) l
def w7 (M : Mem) (l : List (Nat × bN)) : Hp → (Hp → ab) → ab := List.rec (motive := fun _=>Hp → (Hp → ab) → ab) (fun hp k=>k hp) (fun p _ ih hp k=>hp.put M p.1 p.2 fun hp=>ih hp k) l
def fU (M : Mem) (h : Hp) (l : List Nat) : Hp → (Hp → ab) → ab := List.rec (motive := fun _=>Hp → (Hp → ab) → ab) (fun hp k=>k hp) (fun b _ ih hp k=>h.get M b fun B=>hp.get M b fun B'=>
  bN.rec (motive := fun _=>ab) .fail (fun _ fl z s t=>B'.ma fun rw _ _ _ _=>hp.put M b (.row rw fl z s t) fun hp=>ih hp k) (fun n t=>B'.kY fun _ _=>hp.put M b (.map n t) fun hp=>ih hp k) (fun _ _ _ _=>.fail) (fun _=>.fail) B) l
def Hp.a4T (l : List Nat) (h : Hp) : Hp := ⟨h.t,h.nx,l,h.rb⟩
def pO (a b : List Nat) : List Nat := List.rec (motive := fun _=>List Nat) b (fun x _ ih=>x :: ih) a
def retS : Sm := ⟨fun _ _ _=>.fail⟩
def alf : Pt := ⟨fun _ _ _ hp v=>.val v hp⟩
def aaZ (M : Mem) (A : List Nat) (L : List Rd) (s : Sm) (P : Pt) (k : Sm) : Sm :=
  ⟨fun sk fr hp=>la sk fr L [] fun pl=>a3X M A hp [] fun sv h1=>
    ab.rec (motive := fun _=>ab) (fun _ _=>.fail) (fun _ _ _=>.fail) (fun _ _=>.fail) (fun v h2=>w7 M sv h2 fun h3=>fU M hp pl h3 fun h4=>Hp.rec (motive := fun _=>ab) (fun t nx _ _=>Hp.rec (motive := fun _=>ab) (fun _ nx0 pr rb=>au (Nat.ble nx0 nx) (P.f k sk fr ⟨t,nx,pr,rb⟩ v)) hp) h4) .fail (s.run sk fr (h1.a4T (pO pl hp.pr)))⟩
def gW (x : Dr) (l : List Dr) : List Nat := List.rec (motive := fun _=>List Nat) [] (fun y _ ih=>Bool.rec (motive := fun _=>List Nat) ih (y.i :: ih) (aY (Nat.beq y.c 2) (de (bit x.m y.i)))) l
def lA (x : Dr) (l : List Dr) : List Dr := List.rec (motive := fun _=>List Dr) [] (fun y _ ih=>Bool.rec (motive := fun _=>List Dr) ih (y :: ih) (aY (Nat.beq y.c 1) (de (bit x.m y.i)))) l
def fe (C : Cx) (g : G) (x : Dr) : Rd := Option.rec (motive := fun _=>Rd) ⟨fun _ _ _=>.fail⟩ (fun a=>iz C g a) (spot x.o.op)
def a1W (l : List Dr) (y : Dr) : Bool := Option.rec (motive := fun _=>Bool) false (fun a=>match a with | .tmp t=>uY (fun z=>Option.rec (motive := fun _=>Bool) true (fun d=>Bool.rec (motive := fun _=>Bool) true (bit y.m z.i) (Nat.beq d t)) z.o.dst) l | _=>true) (spot y.o.op)
def opers (l : List Dr) : List Oper := List.rec (motive := fun _=>List Oper) [] (fun x _ ih=>x.o :: ih) l
def ve (C : Cx) (g : G) (all : List Dr) (x : Dr) (done : List Dr) (P : Pt) (k : Sm) : Sm :=
  Bool.rec (motive := fun _=>Sm)
    (let A := gW x done; let L := lA x done
     iff (uY (a1W all) L) (aaZ C.M A (L.map (fe C g)) (ix C g alf (jL C.M x.i) retS x.o.op) P k)) (ix C g P (jL C.M x.i) k x.o.op) (Nat.ble x.c 2)
def a6Y (C : Cx) (ops : Array Oper) (all : List Dr) (g : G) (x : Dr) (rest done : List Dr) (k : G → Sm) : Sm :=
  match alias C g x.o (opers rest) with
  | some a=>iff (Nat.ble (Nat.succ a.1) C.nt) (k ⟨g.d,a :: dropKey a.1 g.m⟩)
  | none=>(match dst C g x.o.dst with
    | ⟨P,g'⟩=>(match x.o.guard with
      | none=>ve C g all x done P (k g')
      | some (j,want)=>guarded C g P (k g') (ve C g all x done P (k g')) ((ops[j]?).bind (·.dst)) want))
def uw (C : Cx) (ops : Array Oper) (all l : List Dr) (g : G) (k : G → Sm) : List Dr → Sm :=
  List.rec (motive := fun _=>G → List Dr → Sm) (fun g _=>k g) (fun x r ih g done=>a6Y C ops all g x r done (fun g=>ih g (x :: done))) l g
def sO (l : List Nat) : List Nat → List Nat := List.rec (motive := fun _=>List Nat → List Nat) (fun acc=>acc) (fun a _ ih acc=>ih (a :: acc)) l
def pz (C : Cx) (ops : Array Oper) (g : G) (k : G → Sm) : Sm :=
  let n := ops.size
  let l := order n 0 (drs C.P ops ops.toList (sO (gY ops.toList [] 0) []) 0)
  Bool.rec (motive := fun _=>Sm) bT (let s := uw C ops l l g k []
    ⟨fun sk fr hp=>Hp.rec (motive := fun _=>ab) (fun t nx pr _=>aL nx fun nx=>aL (Nat.add nx n) fun m=>s.run sk fr ⟨t,m,pr,nx⟩) hp⟩) (aY (nY ops.toList 0) (tF l n))
def pG : Sm := ⟨fun _ fr hp=>.ok fr hp⟩
def exS (id : Nat) : Sm := ⟨fun _ fr hp=>.exit id fr hp⟩
def qf : Sm := ⟨fun _ fr hp=>.ret fr hp⟩
def j5 (k : Sm) : Sm := ⟨fun _ fr hp=>k.run .lf fr hp⟩
abbrev tj := List (Nat × Sm)
def ox (id : Nat) (l : tj) : Sm := List.rec (motive := fun _=>Sm) bT (fun a _ ih=>Bool.rec (motive := fun _=>Sm) ih a.2 (Nat.beq a.1 id)) l
def ki (l : tj) : tj := List.rec (motive := fun _=>tj) [] (fun a _ ih=>(a.1,exS a.1) :: ih) l
def abD (l : tj) (n : Nat) (fr : Fr) (hp : Hp) : ab := List.rec (motive := fun _=>ab) .fail (fun a _ ih=>Bool.rec (motive := fun _=>ab) ih (a.2.run .lf fr hp) (Nat.beq a.1 n)) l
def tick (s : Sm) (ih : Fr → Hp → ab) (fr : Fr) (hp : Hp) : ab := ab.rec (motive := fun _=>ab) (fun fr hp=>ih fr hp) (fun n fr hp=>.exit n fr hp) (fun fr hp=>.ret fr hp) (fun _ _=>.fail) .fail (s.run .lf fr hp)
def b8 (s : Sm) (n : Nat) : Fr → Hp → ab := Nat.rec (motive := fun _=>Fr → Hp → ab) (fun _ _=>.fail) (fun _ ih fr hp=>tick s ih fr hp) n
def qp (r : ab) (ok : Fr → Hp → ab) (ex : tj) (rt : Sm) : ab := ab.rec (motive := fun _=>ab) ok (fun n fr hp=>abD ex n fr hp) (fun fr hp=>rt.run .lf fr hp) (fun _ _=>.fail) .fail r
structure Lb where
  f : Nat → Sm
def u7 (ls : List Nat) (segs : Lb) (ih : Sm → Fr → Hp → ab) (s : Sm) (fr : Fr) (hp : Hp) : ab := ab.rec (motive := fun _=>ab) (fun fr hp=>.ok fr hp)
  (fun n fr hp=>List.rec (motive := fun _=>ab) (.exit n fr hp) (fun l _ r=>Bool.rec (motive := fun _=>ab) r (ih (segs.f l) fr hp) (Nat.beq (Nat.succ (Nat.mul 2 l)) n)) ls) (fun fr hp=>.ret fr hp) (fun _ _=>.fail) .fail (s.run .lf fr hp)
def je (ls : List Nat) (segs : Lb) (n : Nat) : Sm → Fr → Hp → ab := Nat.rec (motive := fun _=>Sm → Fr → Hp → ab) (fun _ _ _=>.fail) (fun _ ih s fr hp=>u7 ls segs ih s fr hp) n
structure DC where
  run : G → (G → Sm) → tj → Sm → Sm
  lab : Nat → Option (G → (G → Sm) → tj → Sm → Sm)
  ls : List Nat
def fy : Nat → Option (G → (G → Sm) → tj → Sm → Sm) := fun _=>none
def ad2 (ls : List Nat) (ex : tj) : tj := List.rec (motive := fun _=>tj) ex (fun l _ ih=>(Nat.succ (Nat.mul 2 l),exS (Nat.succ (Nat.mul 2 l))) :: ih) ls
def ah2 (C : Cx) (i : Nat) (f : Rd) (ok : Fr → Hp → ab) (ex : tj) (rt : Sm) : Sm :=
  ⟨fun sk fr hp=>f.get sk fr fun fv=>fv.onX fun g u a n _=>au (Nat.beq g 3) ((br C.M).f hp (.loop 0 C.self i fr) fun b hp=>
    kX b hp (ub n u (.nd (.x 5 .lf b 0 0) .lf .lf) fun l=>dB (a18 C a) l hp fun _ hp=>hp.get C.M b fun B=>B.tT fun st _ _ _=>hp.put C.M b .dead fun hp=>
      Nat.rec (motive := fun _=>ab) (ok fr hp) (fun s _=>Nat.rec (motive := fun _=>ab) .fail (fun s _=>Nat.rec (motive := fun _=>ab) (rt.run .lf fr hp) (fun s _=>abD ex s fr hp) s) s) st))⟩
def den (C : Cx) (c : Code) : DC := Code.rec (motive := fun _=>DC)
  ⟨fun g k _ _=>k g,fy,[]⟩
  (fun _ ops d=>⟨fun g k _ _=>Bool.rec (motive := fun _=>Sm) (jm C ops ops.toList g k) (pz C ops g k) d,fy,[]⟩)
  (fun _ _ a b=>⟨fun g k ex rt=>a.run g (fun g=>b.run g k ex rt) ex rt,fun l=>Option.rec (motive := fun _=>Option (G → (G → Sm) → tj → Sm → Sm)) (b.lab l) (fun r=>some fun g k ex rt=>r g (fun g=>b.run g k ex rt) ex rt) (a.lab l),yH a.ls b.ls⟩)
  (fun c _ _ a b=>⟨fun g k ex rt=>let r := iz C g c; let j := j5 (k .e); let A := a.run g (fun _=>j) ex rt; let B := b.run g (fun _=>j) ex rt; ⟨fun sk fr hp=>r.get sk fr fun v=>v.aJ fun t=>when t (A.run sk fr hp) (B.run sk fr hp)⟩,fy,[]⟩)
  (fun id _ b=>⟨fun g k ex rt=>let j := j5 (k .e); b.run g (fun _=>j) ((Nat.mul 2 id,j) :: ex) rt,fy,[]⟩)
  (fun _ b=>⟨fun _ _ ex rt=>let s := b.run .e (fun _=>pG) (ki ex) qf; ⟨fun _ fr hp=>qp (b8 s 1000000 fr hp) (fun _ _=>.fail) ex rt⟩,fy,[]⟩)
  (fun f ps _ _ _ _=>⟨fun g k ex rt=>let j := k .e; ah2 C (ps.getD 0 0) (iz C g f) (fun fr hp=>j.run .lf fr hp) ex rt,fy,[]⟩)
  (fun id=>⟨fun _ _ ex _=>j5 (ox (Nat.mul 2 id) ex),fy,[]⟩)
  (fun _ b=>⟨fun _ k ex rt=>let j := k .e; let ex' := ad2 b.ls (ki ex); let s := b.run .e (fun _=>pG) ex' qf
      let segs : Lb := ⟨fun l=>Option.rec (motive := fun _=>Sm) bT (fun r=>r .e (fun _=>pG) ex' qf) (b.lab l)⟩
      ⟨fun _ fr hp=>qp (je b.ls segs 1000000 s fr hp) (fun fr hp=>j.run .lf fr hp) ex rt⟩,fy,[]⟩)
  (fun l=>⟨fun g k _ _=>k g,fun m=>Bool.rec (motive := fun _=>Option (G → (G → Sm) → tj → Sm → Sm)) none (some fun g k _ _=>k g) (Nat.beq l m),[l]⟩)
  (fun l=>⟨fun _ _ ex _=>j5 (ox (Nat.succ (Nat.mul 2 l)) ex),fy,[]⟩)
  ⟨fun _ _ _ rt=>j5 rt,fy,[]⟩
  (fun _=>⟨fun _ _ _ _=>bT,fy,[]⟩) c
def resK (C : Cx) (l : List ResultVar) (fr : Fr) (hp : Hp) : (Row → ab) → ab := List.rec (motive := fun _=>(Row → ab) → ab) (fun k=>k .lf)
  (fun x _ ih k=>match x with
    | .tmp t=>(aca 0 (look C .e t)).get .lf fr fun v=>ih fun r=>k (.nd v .lf r)
    | .cell t ty=>(aca 0 (look C .e t)).get .lf fr fun p=>au (known C.P ty) (aI C.M (isAgg C.P ty) (ba C.P ty) p hp fun v=>ih fun r=>k (.nd v .lf r))) l
def ou (C : Cx) (l : List ResultVar) (fr : Fr) (hp : Hp) : ab := resK C l fr hp fun r=>match l with
  | [_]=>Tr.rec (motive := fun _=>ab) .fail (fun v _ _ _ _=>.val v hp) r
  | _=>.val (.bu r l.length) hp
def rL (i : Nat) (l : Row) : Fr → (Fr → ab) → ab := Tr.rec (motive := fun _=>Nat → Fr → (Fr → ab) → ab) (fun _ fr k=>k fr) (fun v _ _ _ ih i fr k=>(abA i).f fr v fun fr=>ih (Nat.succ i) fr k) l i
def fH (n : Nat) (l : List Nat) : Bool := Nat.rec (motive := fun _=>Nat → List Nat → Bool) (fun _ _=>true) (fun _ ih i l=>List.rec (motive := fun _=>Bool) false (fun a r _=>aY (Nat.beq a i) (ih (Nat.succ i) r)) l) n 0 l
def a4E (l : Row) : Nat := Tr.rec (motive := fun _=>Nat) 0 (fun _ _ _ _ n=>Nat.succ n) l
def ab7 {α : Type} (a b : List α) : List α := List.rec (motive := fun _=>List α) b (fun x _ ih=>x :: ih) a
def dV (c : Code) : List (Operand × Array Tmp × Code × Code) := Code.rec (motive := fun _=>List (Operand × Array Tmp × Code × Code)) [] (fun _ _ _=>[]) (fun _ _ a b=>ab7 a b) (fun _ _ _ a b=>ab7 a b) (fun _ _ b=>b) (fun _ b=>b)
  (fun f ps a b ra rb=>(f,ps,a,b) :: ab7 ra rb) (fun _=>[]) (fun _ b=>b) (fun _=>[]) (fun _=>[]) [] (fun _=>[]) c
def rK (c : Code) : Bool := List.rec (motive := fun _=>Bool) true (fun _ r _=>List.rec (motive := fun _=>Bool) true (fun _ _ _=>false) r) (dV c)
def yW (c : Code) : Bool := List.rec (motive := fun _=>Bool) true (fun _ _ _=>false) (dV c)
def aV (C : Cx) : aF :=
  match nP C.P.funcs.toList C.self with
  | none=>ju
  | some fn=>match fn.body with
    | none=>ju
    | some c=>
      let s := (den C c).run .e (fun _=>pG) [] qf
      let rs := fn.results.toList
      let n := fn.params.size + fn.nfree
      Bool.rec (motive := fun _=>aF) ju (Bool.rec (motive := fun _=>aF) ju ⟨fun l hp=>au (Nat.beq (a4E l) n) (rL 0 l (blank C.vars.length) fun fr=>
        ab.rec (motive := fun _=>ab) (fun fr hp=>ou C rs fr hp) (fun _ _ _=>.fail) (fun fr hp=>ou C rs fr hp) (fun _ _=>.fail) .fail (s.run .lf fr hp))⟩ (fH n C.vars)) (aY (rK c) (Nat.ble C.nt fn.ntmps))
def gC (i : Nat) (c : Code) : Option (List Nat × Code × Code) := Code.rec (motive := fun _=>Option (List Nat × Code × Code)) none (fun _ _ _=>none) (fun _ _ a b=>Option.rec (motive := fun _=>Option (List Nat × Code × Code)) b some a) (fun _ _ _ a b=>Option.rec (motive := fun _=>Option (List Nat × Code × Code)) b some a) (fun _ _ b=>b) (fun _ b=>b)
  (fun _ ps a b _ rb=>Bool.rec (motive := fun _=>Option (List Nat × Code × Code)) rb (some (ps.toList,a,b)) (Nat.beq (ps.getD 0 0) i)) (fun _=>none) (fun _ b=>b) (fun _=>none) (fun _=>none) none (fun _=>none) c
def ahi (C : Cx) (ps : List Nat) : Row → Fr → (Fr → ab) → ab := List.rec (motive := fun _=>Row → Fr → (Fr → ab) → ab) (fun l fr k=>Tr.rec (motive := fun _=>ab) (k fr) (fun _ _ _ _ _=>.fail) l)
  (fun p _ ih l fr k=>Tr.rec (motive := fun _=>ab) .fail (fun v _ r _ _=>au (Nat.ble (Nat.succ p) C.nt) (Src.rec (motive := fun _=>ab) (fun _=>.fail) (fun _=>.fail) (fun i=>(abA i).f fr v fun fr=>ih r fr k) .fail (idxOf p C.vars 0))) l) ps
def aew (c : Code) : tj := Code.rec (motive := fun _=>tj) [] (fun _ _ _=>[]) (fun _ _ a b=>a ++ b) (fun _ _ _ a b=>a ++ b) (fun id _ b=>(Nat.mul 2 id,bT) :: b) (fun _ b=>b) (fun _ _ _ _ a b=>a ++ b) (fun _=>[]) (fun _ b=>b) (fun _=>[]) (fun _=>[]) [] (fun _=>[]) c
def zf (C : Cx) (i : Nat) : gP :=
  match nP C.P.funcs.toList C.self with
  | none=>nM
  | some fn=>match fn.body with
    | none=>nM
    | some c=>match gC i c with
      | none=>nM
      | some (ps,a,b)=>
        let s := (den C a).run .e (fun _=>pG) [] bT
        let t := (den C b).run .e (fun _=>pG) (ki (aew c)) qf
        Bool.rec (motive := fun _=>gP) nM ⟨fun fr l hp=>ahi C ps l fr fun fr=>s.run .lf fr hp,fun fr hp=>t.run .lf fr hp⟩ (aY (yW a) (yW b))
end
end Go.Proofs.YtpiokjcbadfalaaGreatDoor.Ev
