import Derived.Test.YtpiokjcbadfalaaGreatDoorEvAB
import Derived.Test.YtpiokjcbadfalaaGreatDoorEvAN
import Derived.Lib.IndexMore
import Derived.Lib.LastIndexLaws
import Derived.DefersIn
namespace Go.Proofs.YtpiokjcbadfalaaGreatDoor.Ev
noncomputable section
def gd (v : AV) (want : Bool) (hp : Hp) (s : (AV → Hp → ab) → ab) (k : AV → Hp → ab) : ab :=
  v.on (fun _ _=>.fail) (fun b=>when (a0M b want) (k cI hp) (s k)) (fun _ _=>.fail) (fun _ _=>.fail) (fun _ _ _ _=>.fail) (fun _ _ _ _=>.fail) (fun _ _=>.fail) (fun _ _=>k cI hp) (fun _ _ _ _ _=>.fail)
def bS (i : Nat) (v : AV) (k : AV → ab) : ab := v.xJ fun t _=>(a5N i).get t .e k
def oM (v : AV) (k : AV → ab) : ab := v.on (fun _ _=>.fail) (fun _=>.fail) (fun _ _=>.fail) (fun _ _=>k v) (fun _ _ _ _=>.fail) (fun _ _ _ _=>.fail) (fun _ _=>.fail) (fun _ _=>.fail) (fun g _ _ _ _=>au (Nat.beq g 1 || Nat.beq g 3 || Nat.beq g 5 || Nat.beq g 12) (k v))
def kh (n : Nat) (hp : Hp) (f : Hp → ab) : ab := Hp.rec (motive := fun _=>ab) (fun t nx pr _=>aL nx fun nx=>aL (Nat.add nx n) fun m=>f ⟨t,m,pr,nx⟩) hp
end
noncomputable section
def ptK (K : AV → Hp → ab) : Pt := ⟨fun _ _ _ hp v=>K v hp⟩
end
theorem eL {b : Bool} {s s' : Sm} {sk : Row} {fr : Fr} {hp : Hp} (h : s.run sk fr hp = s'.run sk fr hp) : (iff b s).run sk fr hp = (iff b s').run sk fr hp := by
  cases b
  · rfl
  · exact h
theorem a96 (C : Cx) (g : G) (P : Pt) (N : NK) (k : Sm) (op : Op) (sk : Row) (fr : Fr) (hp : Hp) : (ix C g P N k op).run sk fr hp = (ix C g (ptK fun v hp=>P.f k sk fr hp v) N bT op).run sk fr hp := by
  unfold ix
  split
  all_goals first
    | rfl
    | (unfold a0O; split <;> first | rfl | (exact eL rfl))
    | (unfold gJ; split <;> first | rfl | (exact eL rfl))
    | (unfold a39; split <;> rfl)
    | (unfold a39; generalize known C.P _ = b; cases b <;> rfl)
    | (exact eL rfl)
    | (unfold a6I; exact eL rfl)
    | (unfold cBin; generalize bp _ _ = b; cases b <;> first | rfl | (unfold a8P; split <;> rfl) | (unfold a34; rfl))
    | (unfold cUn; split <;> rfl)
    | (unfold a8R; split <;> first | rfl | (exact eL rfl))
    | (unfold tz; exact eL rfl)
    | (unfold mJ; split <;> first | rfl | (exact eL rfl))
    | (unfold a0R; split <;> first | rfl | (exact eL rfl))
    | (unfold mH; split <;> first | rfl | (exact eL rfl))
    | (unfold a0P; split <;> first | rfl | (exact eL rfl))
    | (unfold mI; split <;> first | rfl | (exact eL rfl))
    | (unfold a0Q; split <;> first | rfl | (exact eL rfl))
    | (unfold vE; split <;> first | rfl | (split <;> rfl))
    | (unfold mK; split <;> first | rfl | (split <;> rfl))
    | skip
  split
  · unfold rA
    split
    all_goals first
      | rfl
      | (split <;> first | rfl | (exact eL rfl))
      | (split
         · refine eL ?_
           split <;> first | rfl | (exact eL rfl)
         · rfl)
  · unfold a8Q
    split <;> rfl
  · rfl
noncomputable section
def bo (v : AV) (A B : (AV → ab) → ab) (K : AV → ab) : ab := v.aJ fun t=>when t (A K) (B K)
def ao4 (C : Cx) (g : G) (P : Pt) (k : Sm) (c x y : Operand) : Sm := let c := iz C g c; let a := iz C g x; let b := iz C g y; ⟨fun sk fr hp=>c.get sk fr fun v=>bo v (a.get sk fr) (b.get sk fr) fun v=>P.f k sk fr hp v⟩
def mF (M : Mem) (N : NK) (z : Nat) (r0 : Row) (s n : Nat) (l : List (Nat × ((AV → ab) → ab))) (hp : Hp) (k : AV → Hp → ab) : ab :=
  List.rec (motive := fun _=>Row → Bool → ab) (fun r f=>N.f hp (.row true f z s r) fun id hp=>k (.ms id 0 n z) hp) (fun p _ ih t f=>p.2 fun v=>wrV M z z t p.1 v fun t b=>ih t (bp f b)) l r0 true
def mG (C : Cx) (g : G) (P : Pt) (N : NK) (k : Sm) (t : TypeId) (len : Nat) (ps : Array (Nat × Operand)) : Sm := match slT C.P t with
  | none=>bT
  | some e=>let z := ba C.P e; let q := partsOf C g ps.toList (fun i=>i * z) fun _=>z; let r0 := Tr.full (eT C.P e) (depth len); let s := len * z
    iff (bp (Nat.ble 1 z) (bp (dY C.P e z) (bp (Nat.ble s 16777216) (a3u (fun i=>i * z) (fun _=>z) s ps.toList)))) ⟨fun sk fr hp=>mF C.M N z r0 s len (q.map fun p=>(p.o,p.x.get sk fr)) hp fun v hp=>P.f k sk fr hp v⟩
def oq (C : Cx) (g : G) (P : Pt) (N : NK) (k : Sm) (op : Op) : Sm := match op with
  | .pick c a b=>ao4 C g P k c a b
  | .buildSlice t n ps=>mG C g P N k t n ps
  | op=>ix C g P N k op
def lO (C : Cx) (g : G) (P : Pt) (k : Sm) (W : Pt → Sm → Sm) (t : Option Nat) (want : Bool) : Sm := match t with
  | none=>bT
  | some t=>let a := aca g.d (look C g t); ⟨fun sk fr hp=>a.get sk fr fun v=>gd v want hp (fun K=>(W (ptK K) bT).run sk fr hp) (fun v hp=>P.f k sk fr hp v)⟩
end
theorem avt (M : Mem) (z : Nat) (sk : Row) (fr : Fr) (K : Row → Bool → ab) (l : List Part) : ∀ (t : Row) (f : Bool),(vk M z l).f sk fr t f K = List.rec (motive := fun (_ : List (Nat × ((AV → ab) → ab)))=>Row → Bool → ab) K (fun p _ ih t f=>p.2 fun v=>wrV M z z t p.1 v fun t b=>ih t (bp f b)) (l.map fun p=>(p.o,p.x.get sk fr)) t f := by
  induction l with
  | nil=>exact fun _ _=>rfl
  | cons p l ih=>
    intro t f
    show (p.x.get sk fr fun v=>wrV M z z t p.o v fun t b=>(vk M z l).f sk fr t (bp f b) K) = _
    simp only [ih]
    rfl
theorem lL (C : Cx) (g : G) (P : Pt) (N : NK) (k : Sm) (op : Op) : oq C g P N k op = ix C g P N k op := by
  cases op
  case buildSlice t n ps=>
    show mG C g P N k t n ps = gJ C g P N k t n ps
    unfold mG gJ
    generalize slT C.P t = q
    cases q with
    | none=>rfl
    | some e=>
      dsimp only
      refine congrArg (iff _) ?_
      refine congrArg Sm.mk ?_
      funext sk fr hp
      rw [avt]
      rfl
  all_goals rfl
def a8z (W : Pt → Sm → Sm) : Prop := ∀ P k sk fr hp,(W P k).run sk fr hp = (W (ptK fun v hp=>P.f k sk fr hp v) bT).run sk fr hp
theorem uA {C : Cx} {g : G} {P : Pt} {k : Sm} {W : Pt → Sm → Sm} (hW : a8z W) (t : Option Nat) (want : Bool) : lO C g P k W t want = guarded C g P k (W P k) t want := by
  cases t with
  | none=>rfl
  | some t=>
    unfold lO guarded
    dsimp only
    congr 1
    funext sk fr hp
    congr 1
    funext v
    cases v with
    | bool b=>
      show when (a0M b want) (P.f k sk fr hp cI) ((W (ptK fun v hp=>P.f k sk fr hp v) bT).run sk fr hp) = when (a0M b want) (P.f k sk fr hp cI) ((W P k).run sk fr hp)
      rw [← hW]
    | _=>rfl
theorem ajZ (C : Cx) (g : G) (N : NK) (op : Op) : a8z fun P k=>oq C g P N k op := fun P k sk fr hp=>by
  show (oq C g P N k op).run sk fr hp = (oq C g (ptK fun v hp=>P.f k sk fr hp v) N bT op).run sk fr hp
  rw [lL,lL]
  exact a96 C g P N k op sk fr hp
theorem onceW (C : Cx) (g : G) (all : List Dr) (x : Dr) (done : List Dr) : a8z fun P k=>ve C g all x done P k := fun P k sk fr hp=>by
  show (ve C g all x done P k).run sk fr hp = (ve C g all x done (ptK fun v hp=>P.f k sk fr hp v) bT).run sk fr hp
  unfold ve
  cases Nat.ble x.c 2 with
  | true=>exact a96 C g P _ k _ sk fr hp
  | false=>exact eL rfl
noncomputable section
def a95 (C : Cx) (ops : Array Oper) (g : G) (N : NK) (o : Oper) (rest : List Oper) (k : G → Sm) : Sm :=
  match alias C g o rest with
  | some a=>iff (Nat.ble (Nat.succ a.1) C.nt) (k ⟨g.d,a :: dropKey a.1 g.m⟩)
  | none=>(match dst C g o.dst with
    | ⟨P,g'⟩=>(match o.guard with
      | none=>oq C g P N (k g') o.op
      | some (j,want)=>lO C g P (k g') (fun P k=>oq C g P N k o.op) ((ops[j]?).bind (·.dst)) want))
def rD (C : Cx) (ops : Array Oper) (l : List Oper) (g : G) (k : G → Sm) : Sm :=
  List.rec (motive := fun _=>G → Sm) k (fun o r ih g=>a95 C ops g (br C.M) o r ih) l g
def mc (l : List ((AV → ab) → ab)) : List Nat → (List Nat → ab) → ab := List.rec (motive := fun _=>List Nat → (List Nat → ab) → ab) (fun acc k=>k acc) (fun x _ ih acc k=>x fun v=>v.on (fun _ _=>.fail) (fun _=>.fail) (fun _ _=>ih acc k) (fun b _=>ih (b :: acc) k) (fun b _ _ _=>ih (b :: acc) k) (fun _ _ _ _=>ih acc k) (fun _ _=>.fail) (fun _ _=>.fail)
  (fun g _ b _ _=>when (Nat.beq g 4) (ih (b :: acc) k) (au (Nat.beq g 1 || Nat.ble 6 g) (ih acc k)))) l
def fB (M : Mem) (A : List Nat) (l : List ((AV → ab) → ab)) (hp : Hp) (body : Hp → ab) (K : Hp → AV → ab) : ab := mc l [] fun pl=>a3X M A hp [] fun sv h1=>
    ab.rec (motive := fun _=>ab) (fun _ _=>.fail) (fun _ _ _=>.fail) (fun _ _=>.fail) (fun v h2=>w7 M sv h2 fun h3=>fU M hp pl h3 fun h4=>Hp.rec (motive := fun _=>ab) (fun t nx _ _=>Hp.rec (motive := fun _=>ab) (fun _ nx0 pr rb=>au (Nat.ble nx0 nx) (K ⟨t,nx,pr,rb⟩ v)) hp) h4) .fail (body (h1.a4T (pO pl hp.pr)))
def a8q (M : Mem) (A : List Nat) (L : List Rd) (s : Sm) (P : Pt) (k : Sm) : Sm :=
  ⟨fun sk fr hp=>fB M A (L.map fun x=>x.get sk fr) hp (fun h=>s.run sk fr h) fun h v=>P.f k sk fr h v⟩
def ux (C : Cx) (g : G) (all : List Dr) (x : Dr) (done : List Dr) (P : Pt) (k : Sm) : Sm :=
  Bool.rec (motive := fun _=>Sm)
    (let A := gW x done; let L := lA x done
     iff (uY (a1W all) L) (a8q C.M A (L.map (fe C g)) (ix C g alf (jL C.M x.i) retS x.o.op) P k)) (oq C g P (jL C.M x.i) k x.o.op) (Nat.ble x.c 2)
def a94 (C : Cx) (ops : Array Oper) (all : List Dr) (g : G) (x : Dr) (rest done : List Dr) (k : G → Sm) : Sm :=
  match alias C g x.o (opers rest) with
  | some a=>iff (Nat.ble (Nat.succ a.1) C.nt) (k ⟨g.d,a :: dropKey a.1 g.m⟩)
  | none=>(match dst C g x.o.dst with
    | ⟨P,g'⟩=>(match x.o.guard with
      | none=>ux C g all x done P (k g')
      | some (j,want)=>lO C g P (k g') (fun P k=>ux C g all x done P k) ((ops[j]?).bind (·.dst)) want))
end
theorem agd (sk : Row) (fr : Fr) (k : List Nat → ab) (L : List Rd) : ∀ acc,mc (L.map fun x=>x.get sk fr) acc k = la sk fr L acc k := by
  induction L with
  | nil=>exact fun _=>rfl
  | cons x L ih=>
    intro acc
    show (x.get sk fr fun v=>v.on (fun _ _=>.fail) (fun _=>.fail) (fun _ _=>mc (L.map fun x=>x.get sk fr) acc k) (fun b _=>mc (L.map fun x=>x.get sk fr) (b :: acc) k) (fun b _ _ _=>mc (L.map fun x=>x.get sk fr) (b :: acc) k) (fun _ _ _ _=>mc (L.map fun x=>x.get sk fr) acc k) (fun _ _=>.fail) (fun _ _=>.fail)
      (fun g _ b _ _=>when (Nat.beq g 4) (mc (L.map fun x=>x.get sk fr) (b :: acc) k) (au (Nat.beq g 1 || Nat.ble 6 g) (mc (L.map fun x=>x.get sk fr) acc k)))) = _
    simp only [ih]
    rfl
theorem acN (M : Mem) (A : List Nat) (L : List Rd) (s : Sm) (P : Pt) (k : Sm) : a8q M A L s P k = aaZ M A L s P k := by
  unfold a8q aaZ fB
  refine congrArg Sm.mk ?_
  funext sk fr hp
  rw [agd]
theorem rE (C : Cx) (g : G) (all : List Dr) (x : Dr) (done : List Dr) (P : Pt) (k : Sm) : ux C g all x done P k = ve C g all x done P k := by
  unfold ux ve
  rw [lL]
  cases Nat.ble x.c 2 with
  | true=>rfl
  | false=>
    dsimp only
    rw [acN]
theorem aui (C : Cx) (g : G) (all : List Dr) (x : Dr) (done : List Dr) : a8z fun P k=>ux C g all x done P k := fun P k sk fr hp=>by
  show (ux C g all x done P k).run sk fr hp = (ux C g all x done (ptK fun v hp=>P.f k sk fr hp v) bT).run sk fr hp
  rw [rE,rE]
  exact onceW C g all x done P k sk fr hp
theorem adB (C : Cx) (ops : Array Oper) (g : G) (N : NK) (o : Oper) (rest : List Oper) (k : G → Sm) : a95 C ops g N o rest k = a71 C ops g N o rest k := by
  unfold a95 a71
  generalize alias C g o rest = A
  cases A with
  | some a=>rfl
  | none=>
    cases hd : o.guard with
    | none=>exact lL ..
    | some p=>
      show lO C g (dst C g o.dst).p (k (dst C g o.dst).g) (fun P k=>oq C g P N k o.op) ((ops[p.1]?).bind (·.dst)) p.2 = _
      rw [uA (ajZ C g N o.op),lL]
theorem a73 (C : Cx) (ops : Array Oper) (l : List Oper) : ∀ (g : G) (k : G → Sm),rD C ops l g k = jm C ops l g k := by
  induction l with
  | nil=>exact fun _ _=>rfl
  | cons o r ih=>
    intro g k
    show a95 C ops g (br C.M) o r (fun g=>rD C ops r g k) = a71 C ops g (br C.M) o r (fun g=>jm C ops r g k)
    rw [adB,show (fun g=>rD C ops r g k) = fun g=>jm C ops r g k from funext fun g=>ih g k]
theorem adz (C : Cx) (ops : Array Oper) (all : List Dr) (g : G) (x : Dr) (rest done : List Dr) (k : G → Sm) : a94 C ops all g x rest done k = a6Y C ops all g x rest done k := by
  unfold a94 a6Y
  generalize alias C g x.o (opers rest) = A
  cases A with
  | some a=>rfl
  | none=>
    cases hd : x.o.guard with
    | none=>exact rE ..
    | some p=>
      show lO C g (dst C g x.o.dst).p (k (dst C g x.o.dst).g) (fun P k=>ux C g all x done P k) ((ops[p.1]?).bind (·.dst)) p.2 = _
      rw [uA (aui C g all x done),rE]
noncomputable section
def a10 (C : Cx) (ops : Array Oper) (all l : List Dr) (g : G) (k : G → Sm) : List Dr → Sm :=
  List.rec (motive := fun _=>G → List Dr → Sm) (fun g _=>k g) (fun x r ih g done=>a94 C ops all g x r done (fun g=>ih g (x :: done))) l g
def rC (C : Cx) (ops : Array Oper) (g : G) (k : G → Sm) : Sm :=
  let n := ops.size
  let l := order n 0 (drs C.P ops ops.toList (sO (gY ops.toList [] 0) []) 0)
  Bool.rec (motive := fun _=>Sm) bT (let s := a10 C ops l l g k []
    ⟨fun sk fr hp=>kh n hp fun hp=>s.run sk fr hp⟩) (aY (nY ops.toList 0) (tF l n))
end
theorem abn (C : Cx) (ops : Array Oper) (all l : List Dr) : ∀ (g : G) (k : G → Sm) (done : List Dr),a10 C ops all l g k done = uw C ops all l g k done := by
  induction l with
  | nil=>exact fun _ _ _=>rfl
  | cons x r ih=>
    intro g k done
    show a94 C ops all g x r done (fun g=>a10 C ops all r g k (x :: done)) = a6Y C ops all g x r done (fun g=>uw C ops all r g k (x :: done))
    rw [adz,show (fun g=>a10 C ops all r g k (x :: done)) = fun g=>uw C ops all r g k (x :: done) from funext fun g=>ih g k _]
theorem a3m (C : Cx) (ops : Array Oper) (g : G) (k : G → Sm) : rC C ops g k = pz C ops g k := by
  unfold rC pz
  dsimp only
  rw [abn]
  rfl
noncomputable section
def wz (C : Cx) (c : Code) : DC := Code.rec (motive := fun _=>DC)
  ⟨fun g k _ _=>k g,fy,[]⟩
  (fun _ ops d=>⟨fun g k _ _=>Bool.rec (motive := fun _=>Sm) (rD C ops ops.toList g k) (rC C ops g k) d,fy,[]⟩)
  (fun _ _ a b=>⟨fun g k ex rt=>a.run g (fun g=>b.run g k ex rt) ex rt,fun l=>Option.rec (motive := fun _=>Option (G → (G → Sm) → tj → Sm → Sm)) (b.lab l) (fun r=>some fun g k ex rt=>r g (fun g=>b.run g k ex rt) ex rt) (a.lab l),yH a.ls b.ls⟩)
  (fun c _ _ a b=>⟨fun g k ex rt=>let r := iz C g c; let j := j5 (k .e); let A := a.run g (fun _=>j) ex rt; let B := b.run g (fun _=>j) ex rt; ⟨fun sk fr hp=>r.get sk fr fun v=>v.aJ fun t=>when t (A.run sk fr hp) (B.run sk fr hp)⟩,fy,[]⟩)
  (fun id _ b=>⟨fun g k ex rt=>let j := j5 (k .e); b.run g (fun _=>j) ((Nat.mul 2 id,j) :: ex) rt,fy,[]⟩)
  (fun _ b=>⟨fun _ _ ex rt=>let s := b.run .e (fun _=>pG) (ki ex) qf; ⟨fun _ fr hp=>qp (b8 s 1000000 fr hp) (fun _ _=>.fail) ex rt⟩,fy,[]⟩)
  (fun f ps _ _ _ _=>⟨fun g k ex rt=>let j := k .e; ah2 C (ps.getD 0 0) (iz C g f) (fun fr hp=>j.run .lf fr hp) ex rt,fy,[]⟩)
  (fun id=>⟨fun _ _ ex _=>j5 (ox (Nat.mul 2 id) ex),fy,[]⟩)
  (fun _ b=>⟨fun _ k ex rt=>let j := k .e; let ex' := ad2 b.ls (ki ex); let s := b.run .e (fun _=>pG) ex' qf
      let segs : Lb := ⟨fun l=>Option.rec (motive := fun _=>Sm) bT (fun r=>r .e (fun _=>pG) ex' qf) (b.lab l)⟩
      ⟨fun _ fr hp=>qp (je b.ls segs 1000000 s fr hp) (fun fr hp=>j.run .lf fr hp) ex rt⟩,fy,[]⟩)
  (fun l=>⟨fun g k _ _=>k g,fun m=>Bool.rec (motive := fun _=>Option (G → (G → Sm) → tj → Sm → Sm)) none (some fun g k _ _=>k g) (Nat.beq l m),[l]⟩)
  (fun l=>⟨fun _ _ ex _=>j5 (ox (Nat.succ (Nat.mul 2 l)) ex),fy,[]⟩)
  ⟨fun _ _ _ rt=>j5 rt,fy,[]⟩
  (fun _=>⟨fun _ _ _ _=>bT,fy,[]⟩) c
def fnS2 (C : Cx) : aF :=
  match nP C.P.funcs.toList C.self with
  | none=>ju
  | some fn=>match fn.body with
    | none=>ju
    | some c=>
      let s := (wz C c).run .e (fun _=>pG) [] qf
      let rs := fn.results.toList
      let n := fn.params.size + fn.nfree
      Bool.rec (motive := fun _=>aF) ju (Bool.rec (motive := fun _=>aF) ju ⟨fun l hp=>au (Nat.beq (a4E l) n) (rL 0 l (blank C.vars.length) fun fr=>
        ab.rec (motive := fun _=>ab) (fun fr hp=>ou C rs fr hp) (fun _ _ _=>.fail) (fun fr hp=>ou C rs fr hp) (fun _ _=>.fail) .fail (s.run .lf fr hp))⟩ (fH n C.vars)) (aY (rK c) (Nat.ble C.nt fn.ntmps))
structure Ctx where
  c : Code
  k : G → Sm
  ex : tj
  rt : Sm
def Ctx.down (C : Cx) (x : Ctx) (i : Nat) : Ctx := match x.c with
  | .seq a b=>match i with
    | 0=>⟨a,fun g=>(wz C b).run g x.k x.ex x.rt,x.ex,x.rt⟩
    | _=>⟨b,x.k,x.ex,x.rt⟩
  | .cond _ a b=>match i with
    | 0=>⟨a,fun _=>j5 (x.k .e),x.ex,x.rt⟩
    | _=>⟨b,fun _=>j5 (x.k .e),x.ex,x.rt⟩
  | .block id b=>⟨b,fun _=>j5 (x.k .e),(Nat.mul 2 id,j5 (x.k .e)) :: x.ex,x.rt⟩
  | .loop b=>⟨b,fun _=>pG,ki x.ex,qf⟩
  | _=>x
def Ctx.at (C : Cx) (x : Ctx) (p : List Nat) : Ctx := List.rec (motive := fun _=>Ctx → Ctx) (fun x=>x) (fun i _ ih x=>ih (x.down C i)) p x
def topC (C : Cx) : Ctx := match nP C.P.funcs.toList C.self with
  | none=>⟨.skip,fun _=>pG,[],qf⟩
  | some fn=>match fn.body with
    | none=>⟨.skip,fun _=>pG,[],qf⟩
    | some c=>⟨c,fun _=>pG,[],qf⟩
def atC (C : Cx) (p : List Nat) : Ctx := (topC C).at C p
def aT (C : Cx) (p : List Nat) : Sm := j5 ((atC C p).k .e)
def o9 (C : Cx) (p : List Nat) : Sm := let x := (atC C p).down C 0; (wz C x.c).run .e x.k x.ex x.rt
def oy (C : Cx) (p : List Nat) (r : ab) : ab := let x := atC C p; qp r (fun _ _=>.fail) x.ex x.rt
def qb (C : Cx) (p : List Nat) (fr : Fr) (hp : Hp) : ab := oy C p (b8 (o9 C p) 1000000 fr hp)
def kO (C : Cx) (r : ab) : ab := match nP C.P.funcs.toList C.self with
  | none=>.fail
  | some fn=>ab.rec (motive := fun _=>ab) (fun fr hp=>ou C fn.results.toList fr hp) (fun _ _ _=>.fail) (fun fr hp=>ou C fn.results.toList fr hp) (fun _ _=>.fail) .fail r
def fnG (D : Code → DC) (C : Cx) : aF :=
  match nP C.P.funcs.toList C.self with
  | none=>ju
  | some fn=>match fn.body with
    | none=>ju
    | some c=>
      let s := (D c).run .e (fun _=>pG) [] qf
      let rs := fn.results.toList
      let n := fn.params.size + fn.nfree
      Bool.rec (motive := fun _=>aF) ju (Bool.rec (motive := fun _=>aF) ju ⟨fun l hp=>au (Nat.beq (a4E l) n) (rL 0 l (blank C.vars.length) fun fr=>
        ab.rec (motive := fun _=>ab) (fun fr hp=>ou C rs fr hp) (fun _ _ _=>.fail) (fun fr hp=>ou C rs fr hp) (fun _ _=>.fail) .fail (s.run .lf fr hp))⟩ (fH n C.vars)) (aY (rK c) (Nat.ble C.nt fn.ntmps))
end
theorem aiW (C : Cx) (c : Code) : wz C c = den C c := by
  induction c with
  | region id ops d=>
    show (⟨fun g k _ _=>Bool.rec (motive := fun _=>Sm) (rD C ops ops.toList g k) (rC C ops g k) d,fy,[]⟩ : DC) = ⟨fun g k _ _=>Bool.rec (motive := fun _=>Sm) (jm C ops ops.toList g k) (pz C ops g k) d,fy,[]⟩
    congr 1
    funext g k _ _
    rw [a73,a3m]
  | seq a b iha ihb=>unfold wz den at *; dsimp only; rw [iha,ihb]
  | cond c a b iha ihb=>unfold wz den at *; dsimp only; rw [iha,ihb]
  | block id b ih=>unfold wz den at *; dsimp only; rw [ih]
  | loop b ih=>unfold wz den at *; dsimp only; rw [ih]
  | scope b ih=>unfold wz den at *; dsimp only; rw [ih]
  | _=>rfl
theorem cX (C : Cx) : fnS2 C = aV C := by
  show fnG (wz C) C = fnG (den C) C
  rw [show wz C = den C from funext fun c=>aiW C c]
noncomputable def S (l : List UInt8) : AV := .str (aR l) l.length
def I (z : Int) : AV := .int 3 (z % 18446744073709551616).toNat
def U (n : Nat) : AV := .int 7 n
def B8 (n : Nat) : AV := .int 4 n
def jR (a : Int) : Prop := -9223372036854775808 ≤ a ∧ a < 9223372036854775808
theorem a1g {n : Nat} (h : n < 18446744073709551616) : AV.int 3 n = I n := by
  unfold I; congr 1; omega
theorem a9t : AV.int 3 18446744073709551615 = I (-1) := rfl
theorem arG : AV.int 3 0 = I 0 := rfl
theorem arH : AV.int 3 1 = I 1 := rfl
theorem xI (b : Bool) (f : Bool → ab) : AV.aJ (.bool b) f = f b := rfl
theorem a9N (z : Int) (f : Nat → Nat → ab) : AV.bO (I z) f = f 3 (z % 18446744073709551616).toNat := rfl
theorem a9O (n : Nat) (f : Nat → Nat → ab) : AV.bO (U n) f = f 7 n := rfl
theorem ajX (n : Nat) (f : Nat → Nat → ab) : AV.bO (B8 n) f = f 4 n := rfl
theorem ajY (l : List UInt8) (f : Nat → Nat → ab) : AV.eE (S l) f = f (aR l) l.length := rfl
theorem avx (x y : ab) : when true x y = x := rfl
theorem a25 (x y : ab) : when false x y = y := rfl
theorem fX (i n : Nat) (k : AV → ab) : bQ i n k = k (.int i n) := by cases n <;> rfl
theorem aG {b : Bool} (h : b = true) (x : ab) : au b x = x := by rw [h]; rfl
theorem o8 (a b : Nat) : Nat.ble a b = decide (a ≤ b) := by rw [Bool.eq_iff_iff,bn,decide_eq_true_eq]
theorem rr (a b : Nat) : Nat.beq a b = decide (a = b) := by rw [Bool.eq_iff_iff,aC,decide_eq_true_eq]
theorem yp {p : Prop} [Decidable p] (x y : ab) : when (decide p) x y = if p then x else y := by
  by_cases h : p <;> simp [h,when]
theorem aep (hp : Hp) (s : (AV → Hp → ab) → ab) (k : AV → Hp → ab) : gd (.bool true) true hp s k = s k := rfl
theorem aem (hp : Hp) (s : (AV → Hp → ab) → ab) (k : AV → Hp → ab) : gd (.bool false) false hp s k = s k := rfl
theorem aeo (hp : Hp) (s : (AV → Hp → ab) → ab) (k : AV → Hp → ab) : gd (.bool true) false hp s k = k cI hp := rfl
theorem aen (hp : Hp) (s : (AV → Hp → ab) → ab) (k : AV → Hp → ab) : gd (.bool false) true hp s k = k cI hp := rfl
theorem ajx (i x y : Nat) (f : Nat → Nat → ab) : kp i (.int i x) (.int i y) f = f x y := by
  show au (Nat.beq i i) (au (Nat.beq i i) (f x y)) = _
  rw [Nat.beq_refl]; rfl
theorem a3Y (i M H w x y : Nat) (k : AV → ab) : (vh i M H w .sub).f (.int i x) (.int i y) k = k (.int i ((x + M - y) % M)) := by
  show kp i (.int i x) (.int i y) (fun x y=>bQ i (Nat.mod (Nat.sub (Nat.add x M) y) M) k) = _
  rw [ajx,fX]; rfl
theorem ajn (op : BinOp) : ar op 3 = vh 3 18446744073709551616 9223372036854775808 64 op := rfl
theorem ajo (op : BinOp) : ar op 7 = vh 7 18446744073709551616 0 64 op := rfl
section
variable {a b : Int} {k : AV → ab}
theorem add_I : (ar .add 3).f (I a) (I b) k = k (I (a + b)) := by
  show bQ 3 (((a % 18446744073709551616).toNat + (b % 18446744073709551616).toNat) % 18446744073709551616) k = _
  rw [fX]; unfold I; congr 2; omega
theorem anA : (ar .sub 3).f (I a) (I b) k = k (I (a - b)) := by
  rw [ajn]
  unfold I
  rw [a3Y]
  congr 2; omega
theorem uN {a : Int} (h : jR a) : ((a % 18446744073709551616).toNat + 9223372036854775808) % 18446744073709551616 = (a + 9223372036854775808).toNat := by
  obtain ⟨h1,h2⟩ := h
  omega
theorem alb (ha : jR a) (hb : jR b) : (ar .lss 3).f (I a) (I b) k = k (.bool (decide (a < b))) := by
  show k (.bool (Nat.ble (Nat.succ (((a % 18446744073709551616).toNat + 9223372036854775808) % 18446744073709551616)) (((b % 18446744073709551616).toNat + 9223372036854775808) % 18446744073709551616))) = _
  rw [uN ha,uN hb,o8]
  congr 3; have := ha.1; have := hb.1; rw [eq_iff_iff]; omega
theorem leq_I (ha : jR a) (hb : jR b) : (ar .leq 3).f (I a) (I b) k = k (.bool (decide (a ≤ b))) := by
  show k (.bool (Nat.ble (((a % 18446744073709551616).toNat + 9223372036854775808) % 18446744073709551616) (((b % 18446744073709551616).toNat + 9223372036854775808) % 18446744073709551616))) = _
  rw [uN ha,uN hb,o8]
  congr 3; have := ha.1; have := hb.1; rw [eq_iff_iff]; omega
theorem gtr_I (ha : jR a) (hb : jR b) : (ar .gtr 3).f (I a) (I b) k = k (.bool (decide (b < a))) := by
  show k (.bool (Nat.ble (Nat.succ (((b % 18446744073709551616).toNat + 9223372036854775808) % 18446744073709551616)) (((a % 18446744073709551616).toNat + 9223372036854775808) % 18446744073709551616))) = _
  rw [uN ha,uN hb,o8]
  congr 3; have := ha.1; have := hb.1; rw [eq_iff_iff]; omega
theorem geq_I (ha : jR a) (hb : jR b) : (ar .geq 3).f (I a) (I b) k = k (.bool (decide (b ≤ a))) := by
  show k (.bool (Nat.ble (((b % 18446744073709551616).toNat + 9223372036854775808) % 18446744073709551616) (((a % 18446744073709551616).toNat + 9223372036854775808) % 18446744073709551616))) = _
  rw [uN ha,uN hb,o8]
  congr 3; have := ha.1; have := hb.1; rw [eq_iff_iff]; omega
theorem eql_I (ha : jR a) (hb : jR b) : (ar .eql 3).f (I a) (I b) k = k (.bool (decide (a = b))) := by
  show k (.bool (Nat.beq (a % 18446744073709551616).toNat (b % 18446744073709551616).toNat)) = _
  rw [rr]
  congr 3; have := ha.1; have := hb.1; have := ha.2; have := hb.2; rw [eq_iff_iff]; omega
theorem neq_I (ha : jR a) (hb : jR b) : (ar .neq 3).f (I a) (I b) k = k (.bool (!decide (a = b))) := by
  show k (.bool (de (Nat.beq (a % 18446744073709551616).toNat (b % 18446744073709551616).toNat))) = _
  rw [rr,fq]
  congr 4; have := ha.1; have := hb.1; have := ha.2; have := hb.2; rw [eq_iff_iff]; omega
theorem a43 {n : Nat} {k : Nat → ab} (h0 : 0 ≤ a) (h : a < n) (hn : n < 9223372036854775808) : iG (I a) n k = k a.toNat := by
  show au (Nat.ble (Nat.succ (a % 18446744073709551616).toNat) n) (mY 3 (a % 18446744073709551616).toNat (k (a % 18446744073709551616).toNat)) = _
  have e : (a % 18446744073709551616).toNat = a.toNat := by omega
  rw [e,aG (by rw [bn]; omega)]
  show au (Nat.ble (Nat.succ a.toNat) 9223372036854775808) _ = _
  rw [aG (by rw [bn]; omega)]
theorem zn {n : Nat} {k : Nat → ab} (h0 : 0 ≤ a) (h : a ≤ n) (hn : n < 9223372036854775808) : gL (I a) n k = k a.toNat := by
  show au (Nat.ble (a % 18446744073709551616).toNat n) (mY 3 (a % 18446744073709551616).toNat (k (a % 18446744073709551616).toNat)) = _
  have e : (a % 18446744073709551616).toNat = a.toNat := by omega
  rw [e,aG (by rw [bn]; omega)]
  show au (Nat.ble (Nat.succ a.toNat) 9223372036854775808) _ = _
  rw [aG (by rw [bn]; omega)]
end
section
variable {a b : Nat} {k : AV → ab}
theorem add_U : (ar .add 7).f (U a) (U b) k = k (U ((a + b) % 18446744073709551616)) := by
  show bQ 7 ((a + b) % 18446744073709551616) k = _
  rw [fX]; rfl
theorem sub_U (h : b ≤ a) (ha : a < 18446744073709551616) : (ar .sub 7).f (U a) (U b) k = k (U (a - b)) := by
  rw [ajo]
  unfold U
  rw [a3Y]
  congr 2; omega
theorem mul_U : (ar .mul 7).f (U a) (U b) k = k (U ((a * b) % 18446744073709551616)) := by
  show bQ 7 ((a * b) % 18446744073709551616) k = _
  rw [fX]; rfl
theorem alg (h : b ≠ 0) (ha : a < 18446744073709551616) : (ar .quo 7).f (U a) (U b) k = k (U (a / b)) := by
  show when (Nat.beq b 0) .fail (bQ 7 ((a / b) % 18446744073709551616) k) = _
  rw [rr,yp,if_neg h,fX]
  show k (AV.int 7 _) = k (AV.int 7 _)
  rw [Nat.mod_eq_of_lt (Nat.lt_of_le_of_lt (Nat.div_le_self _ _) ha)]
theorem rem_U (h : b ≠ 0) (ha : a < 18446744073709551616) : (ar .rem 7).f (U a) (U b) k = k (U (a % b)) := by
  show when (Nat.beq b 0) .fail (bQ 7 ((a % b) % 18446744073709551616) k) = _
  rw [rr,yp,if_neg h,fX]
  show k (AV.int 7 _) = k (AV.int 7 _)
  rw [Nat.mod_eq_of_lt (Nat.lt_of_le_of_lt (Nat.mod_le _ _) ha)]
theorem akV : (ar .eql 7).f (U a) (U b) k = k (.bool (decide (a = b))) := by
  show k (.bool (Nat.beq a b)) = _
  rw [rr]
theorem lss_U : (ar .lss 7).f (U a) (U b) k = k (.bool (decide (a < b))) := by
  show k (.bool (Nat.ble (Nat.succ a) b)) = _
  rw [o8]; rfl
theorem gtr_U : (ar .gtr 7).f (U a) (U b) k = k (.bool (decide (b < a))) := by
  show k (.bool (Nat.ble (Nat.succ b) a)) = _
  rw [o8]; rfl
theorem geq_U : (ar .geq 7).f (U a) (U b) k = k (.bool (decide (b ≤ a))) := by
  show k (.bool (Nat.ble b a)) = _
  rw [o8]
theorem eql_B : (ar .eql 4).f (B8 a) (B8 b) k = k (.bool (decide (a = b))) := by
  show k (.bool (Nat.beq a b)) = _
  rw [rr]
theorem lss_B : (ar .lss 4).f (B8 a) (B8 b) k = k (.bool (decide (a < b))) := by
  show k (.bool (Nat.ble (Nat.succ a) b)) = _
  rw [o8]; rfl
theorem gtr_B : (ar .gtr 4).f (B8 a) (B8 b) k = k (.bool (decide (b < a))) := by
  show k (.bool (Nat.ble (Nat.succ b) a)) = _
  rw [o8]; rfl
theorem leq_B : (ar .leq 4).f (B8 a) (B8 b) k = k (.bool (decide (a ≤ b))) := by
  show k (.bool (Nat.ble a b)) = _
  rw [o8]
theorem geq_B : (ar .geq 4).f (B8 a) (B8 b) k = k (.bool (decide (b ≤ a))) := by
  show k (.bool (Nat.ble b a)) = _
  rw [o8]
end
section
variable {a b : List UInt8} {k : AV → ab} {hp : Hp}
theorem len_S {k : Nat → ab} : dX mem 0 (S a) hp k = k a.length := rfl
theorem akQ (h : a.length + b.length ≤ 9223372036854775807) : (gM .add).f (S a) (S b) k = k (S (a ++ b)) := by
  show au (Nat.ble (a.length + b.length) 9223372036854775807) (vy (aR a + aR b * 256 ^ a.length) (a.length + b.length) k) = _
  rw [aG (by rw [bn]; exact h)]
  unfold vy S
  rw [az,az,nf,List.length_append]
theorem eq_S : sV (aR a) a.length (aR b) b.length = decide (a = b) := by
  rw [Bool.eq_iff_iff,decide_eq_true_eq]
  show (Bool.rec (motive := fun _=>Bool) false (Nat.beq (aR a) (aR b)) (Nat.beq a.length b.length)) = true ↔ _
  constructor
  · intro h
    rw [rr,rr] at h
    by_cases h1 : a.length = b.length
    · rw [decide_eq_true h1] at h
      exact pJ a b h1 (by simpa using h)
    · rw [decide_eq_false h1] at h; cases h
  · rintro rfl
    rw [Nat.beq_refl,Nat.beq_refl]
theorem eql_S : (gM .eql).f (S a) (S b) k = k (.bool (decide (a = b))) := by
  show k (.bool (sV (aR a) a.length (aR b) b.length)) = _
  rw [eq_S]
theorem neq_S : (gM .neq).f (S a) (S b) k = k (.bool (!decide (a = b))) := by
  show k (.bool (de (sV (aR a) a.length (aR b) b.length))) = _
  rw [eq_S,fq]
theorem ao2 {j : Nat} (h : j < a.length) : bQ 4 (Nat.mod (Nat.div (aR a) (Nat.pow 256 j)) 256) k = k (B8 (a[j]).toNat) := by
  rw [fX]
  show k (AV.int 4 (aR a / 256 ^ j % 256)) = _
  rw [pI a j h]; rfl
theorem aaC {i j : Nat} (h : i ≤ j) (hj : j ≤ a.length) : vy (Nat.mod (Nat.div (aR a) (Nat.pow 256 i)) (Nat.pow 256 (Nat.sub j i))) (Nat.sub j i) k = k (S ((a.take j).drop i)) := by
  unfold vy
  rw [az,az]
  show k (AV.str (aR a / 256 ^ i % 256 ^ (j - i)) (j - i)) = _
  rw [ng,qN]
  unfold S
  rw [List.drop_take]
  congr 2
  rw [List.length_take,List.length_drop]; omega
theorem a8j {i : Int} (h0 : 0 ≤ i) (hi : i ≤ a.length) (hl : a.length < 9223372036854775808) : fc (S a) (.some (I i)) .none k = k (S (a.drop i.toNat)) := by
  show gL (I i) a.length (fun l=>vy (Nat.mod (Nat.div (aR a) (Nat.pow 256 l)) (Nat.pow 256 (Nat.sub a.length l))) (Nat.sub a.length l) k) = _
  rw [zn h0 hi hl,aaC (by omega) (Nat.le_refl _),List.take_length]
theorem a8i {j : Int} (h0 : 0 ≤ j) (hj : j ≤ a.length) (hl : a.length < 9223372036854775808) : fc (S a) .none (.some (I j)) k = k (S (a.take j.toNat)) := by
  show gL (I j) a.length (fun h=>vy (Nat.mod (Nat.div (aR a) (Nat.pow 256 0)) (Nat.pow 256 (Nat.sub h 0))) (Nat.sub h 0) k) = _
  rw [zn h0 hj hl,aaC (by omega) (by omega),List.drop_zero]
theorem a1T {i j : Int} (h0 : 0 ≤ i) (hi : i ≤ j) (hj : j ≤ a.length) (hl : a.length < 9223372036854775808) : fc (S a) (.some (I i)) (.some (I j)) k = k (S ((a.take j.toNat).drop i.toNat)) := by
  show gL (I j) a.length (fun h=>gL (I i) h (fun l=>vy (Nat.mod (Nat.div (aR a) (Nat.pow 256 l)) (Nat.pow 256 (Nat.sub h l))) (Nat.sub h l) k)) = _
  rw [zn (by omega) hj hl,zn h0 (by omega) (by omega),aaC (by omega) (by omega)]
end
section
variable {s : Sm} {n : Nat} {fr fr' : Fr} {hp hp' : Hp} {id : Nat}
theorem gv (h : s.run .lf fr hp = .ok fr' hp') : b8 s (n + 1) fr hp = b8 s n fr' hp' := by
  show tick s (b8 s n) fr hp = _
  unfold tick; rw [h]
theorem fR (h : s.run .lf fr hp = .exit id fr' hp') : b8 s (n + 1) fr hp = .exit id fr' hp' := by
  show tick s (b8 s n) fr hp = _
  unfold tick; rw [h]
theorem lU (h : s.run .lf fr hp = .ret fr' hp') : b8 s (n + 1) fr hp = .ret fr' hp' := by
  show tick s (b8 s n) fr hp = _
  unfold tick; rw [h]
end
def yj (n s : Nat) : List UInt8 := (ly n s).map Nat.toUInt8
theorem fM (l : List UInt8) : yj l.length (aR l) = l := by
  unfold yj
  rw [oa]
  show (l.map (·.toNat)).map Nat.toUInt8 = l
  rw [List.map_map]
  conv=>rhs; rw [← List.map_id l]
  exact List.map_congr_left fun b _=>by simp
noncomputable def a5H (q : Nat) (spec : List UInt8 → List UInt8 → AV) : aF := ⟨fun l hp=>nN l fun a r=>nN r fun b r=>a2S r (a.eE fun s n=>b.eE fun t m=>au (Nat.ble n q) (au (Nat.ble m q) (.val (spec (yj n s) (yj m t)) hp)))⟩
theorem ya {q : Nat} {spec : List UInt8 → List UInt8 → AV} {a b : List UInt8} (ha : a.length ≤ q) (hb : b.length ≤ q) (hp : Hp) : (a5H q spec).f (.nd (S a) .lf (.nd (S b) .lf .lf)) hp = .val (spec a b) hp := by
  show au (Nat.ble a.length q) (au (Nat.ble b.length q) (.val (spec (yj a.length (aR a)) (yj b.length (aR b))) hp)) = _
  rw [aG (by rw [bn]; exact ha),aG (by rw [bn]; exact hb),fM,fM]
section
variable {V : Env} {f : FuncId}
theorem yb {q : Nat} {spec : List UInt8 → List UInt8 → AV} (hcan : Can V.P f)
    (H : ∀ (s t : ByteArray) (w : World) (F : Nat → Prop) (μ : Mu),V.Glo w F → s.size ≤ q → t.size ≤ q → Calls V.P f #[.string s,.string t] w fun e w'=>∃ x,e = .returned x ∧ RowKit.Below w.heap.size w w' ∧ ai w' F μ (spec s.data.toList t.data.toList) x) : ao V f (a5H q spec) := by
  refine ao.known hcan fun l hp R h hR=>?_
  obtain ⟨a,_,r,rfl,h1⟩ := dw hR h
  obtain ⟨b,_,r,rfl,h2⟩ := dw hR h1
  obtain ⟨rfl,h3⟩ := kb hR h2
  obtain ⟨s,n,rfl,h4⟩ := bW hR h3
  obtain ⟨t,m,rfl,h5⟩ := bW hR h4
  obtain ⟨hn,h6⟩ := an hR h5
  obtain ⟨hm,h7⟩ := an hR h6
  rw [bn] at hn hm
  refine ⟨_,h7.symm,fun w F μ args hg ha=>?_⟩
  obtain ⟨x,y,rfl,hx,hy⟩ := zk ha
  obtain ⟨b1,rfl,rfl,rfl⟩ := iT hx
  obtain ⟨b2,rfl,rfl,rfl⟩ := iT hy
  have e1 : yj b1.size (aR b1.data.toList) = b1.data.toList := fM b1.data.toList
  have e2 : yj b2.size (aR b2.data.toList) = b2.data.toList := fM b2.data.toList
  rw [e1,e2]
  exact H b1 b2 w F μ hg hn hm
theorem a5p {w : World} {F : Nat → Prop} {μ : Mu} (l : List UInt8) : ai w F μ (S l) (.string ⟨l.toArray⟩) := sM (b := ⟨l.toArray⟩) rfl rfl
theorem aau {w : World} {F : Nat → Prop} {μ : Mu} {i : Int} (h : jR i) : ai w F μ (I i) (.int .i64 i) := by
  obtain ⟨h1,h2⟩ := h
  have := ai.int (w := w) (F := F) (μ := μ) (k := 3) (n := (i % 18446744073709551616).toNat) (by show (i % 18446744073709551616).toNat < 18446744073709551616; omega)
  have e : (kd 3).wrap (((i % 18446744073709551616).toNat : Nat) : Int) = i := by
    show IntKind.i64.wrap _ = i
    have e2 : (((i % 18446744073709551616).toNat : Nat) : Int) = i % 18446744073709551616 := by omega
    rw [e2]
    simp only [IntKind.wrap]
    first
      | omega
      | (simp [IntKind.bits,IntKind.signed]; omega)
  rw [e] at this
  exact this
noncomputable def adr : aF := a5H 4294967280 fun s p=>.bu (.nd (S (Lib.trimPrefix s p)) .lf (.nd (.bool (Lib.hasPrefix s p)) .lf .lf)) 2
theorem ads (hcan : Can V.P f) (H : ∀ (s p : ByteArray) (w : World),Calls V.P f #[.string s,.string p] w fun e w'=>e = .returned (.tuple #[.string ⟨(Lib.trimPrefix s.data.toList p.data.toList).toArray⟩,.bool (Lib.hasPrefix s.data.toList p.data.toList)]) ∧ w' = w) : ao V f adr :=
  yb hcan fun s t w F μ _ _ _=>(H s t w).mono fun e w' ⟨e1,e2⟩=>⟨_,e1,by rw [e2]; exact .refl _ _,sL (a5p _) (.bool _)⟩
noncomputable def cutF : aF := a5H 4294967280 fun s p=>.bu (.nd (S (Lib.cut s p).1) .lf (.nd (S (Lib.cut s p).2.1) .lf (.nd (.bool (Lib.cut s p).2.2) .lf .lf))) 3
theorem acs {w : World} {F : Nat → Prop} {μ : Mu} {a b c : AV} {x y z : Value} (ha : ai w F μ a x) (hb : ai w F μ b y) (hc : ai w F μ c z) : ai w F μ (.bu (.nd a .lf (.nd b .lf (.nd c .lf .lf))) 3) (.tuple #[x,y,z]) :=
  .bu (fun i=>if i = 0 then x else if i = 1 then y else z) rfl (fun i hi=>by
    have : i < 3 := hi
    rcases (by omega : i = 0 ∨ i = 1 ∨ i = 2) with rfl | rfl | rfl <;> rfl) fun i hi=>by
    have : i < 3 := hi
    rcases (by omega : i = 0 ∨ i = 1 ∨ i = 2) with rfl | rfl | rfl
    · exact ha
    · exact hb
    · exact hc
theorem aiT (hcan : Can V.P f) (H : ∀ (s t : ByteArray) (w : World) (F : Nat → Prop),V.Glo w F → s.size < 4294967281 → Calls V.P f #[.string s,.string t] w fun e w'=>e = .returned (.tuple #[.string ⟨(Lib.cut s.data.toList t.data.toList).1.toArray⟩,.string ⟨(Lib.cut s.data.toList t.data.toList).2.1.toArray⟩,.bool (Lib.cut s.data.toList t.data.toList).2.2]) ∧ RowKit.Below w.heap.size w w') : ao V f cutF :=
  yb hcan fun s t w F μ hg hs _=>(H s t w F hg (by omega)).mono fun e w' ⟨e1,e2⟩=>⟨_,e1,e2,acs (a5p _) (a5p _) (.bool _)⟩
noncomputable def afu : aF := a5H 4294967280 fun s p=>I (Lib.lastIndex s p)
theorem a7H (s sub : List UInt8) : ∀ k,-1 ≤ Lib.lastOcc s sub k ∧ Lib.lastOcc s sub k < k + 1 := by
  intro k
  rcases Lib.lastOcc_spec s sub k with ⟨h,_⟩ | ⟨i,h1,h2,_⟩
  · rw [h]; omega
  · rw [h2]; omega
theorem afv (hcan : Can V.P f) (H : ∀ (s t : ByteArray) (w : World),s.size < 4611686018427387904 → Calls V.P f #[.string s,.string t] w fun e w'=>e = .returned (.int .i64 (Lib.lastIndex s.data.toList t.data.toList)) ∧ w' = w) : ao V f afu :=
  yb hcan fun s t w F μ _ hs _=>(H s t w (by omega)).mono fun e w' ⟨e1,e2⟩=>⟨_,e1,by rw [e2]; exact .refl _ _,aau (by
    have hl : s.data.toList.length ≤ 4294967280 := hs
    unfold jR Lib.lastIndex
    split
    · have := a7H s.data.toList t.data.toList (s.data.toList.length - t.data.toList.length + 1)
      omega
    · omega)⟩
end
theorem a8k {c : Code} {q : Dfd} (h : y7 c = some q) : c = .seq (.region q.ia q.a false) (.seq (.region q.id #[q.o0,q.o1] false) q.rest) ∧ q.o0.op = .makeFunc (.func q.g) q.fs q.uZ ∧ q.o0.dst = some q.t ∧ q.o0.guard = none ∧ q.o1.op = .defer ⟨.value (.tmp q.t'),q.as,q.ts⟩ ∧ q.o1.dst = none ∧ q.o1.guard = none := by
  unfold y7 at h
  split at h
  · rename_i ia a id ops rest
    obtain ⟨p,h1,h2⟩ := Option.bind_eq_some_iff.1 h
    obtain ⟨z,h3,h4⟩ := Option.map_eq_some_iff.1 h2
    subst h4
    have hops : ops = #[p.1,p.2] := by
      unfold anC at h1
      split at h1
      · rename_i x y e
        cases h1
        rw [← Array.toList_inj,e]
      · cases h1
    unfold opsD at h3
    split at h3
    · cases h3
      rename_i e1 e2 e3 e4 e5 e6
      exact ⟨by rw [hops],e1,e2,e3,e4,e5,e6⟩
    · cases h3
  · cases h
theorem a7S {C : Cx} {g : G} {t : Nat} (h : a7R C g t = true) : look C g t = .no ∧ t < C.nt := by
  unfold a7R at h
  split at h
  · rename_i e; rw [bn] at h; exact ⟨e,h⟩
  · cases h
noncomputable section
def AV.cs {ρ : Type} (y : AV) (i : Nat → Nat → ρ) (b : Bool → ρ) (s p : Nat → Nat → ρ) (m v : Nat → Nat → Nat → Nat → ρ) (vr : Row → ρ → ρ) (a t : Row → Nat → ρ) (x : Nat → Row → Nat → Nat → Nat → ρ) : ρ :=
  @AV.rec (fun _=>ρ) (fun _=>Unit) i b s p m (fun t o n z _=>vr t (v o n z 0)) (fun u n _=>a u n) (fun u n _=>t u n) (fun g u a b c _=>x g u a b c) () (fun _ _ _ _ _ _=>()) y
def jW : Nat → Nat → Bool := fun _ _=>false
def qc : Nat → Nat → Nat → Nat → Bool := fun _ _ _ _=>false
def no1 : Bool → Bool := fun _=>false
def noV : Row → Bool → Bool := fun _ _=>false
def qd : Row → Nat → Bool := fun _ _=>false
def noX : Nat → Row → Nat → Nat → Nat → Bool := fun _ _ _ _ _=>false
def beqB (a b : Bool) : Bool := Bool.rec (motive := fun _=>Bool) (de b) b a
def wC : Row → Row → Bool := fun t=>@AV.rec_1 (fun _=>AV → Bool) (fun _=>Row → Bool)
  (fun k n y=>y.cs (fun k' n'=>aY (Nat.beq n n') (Nat.beq k k')) no1 jW jW qc qc noV qd qd noX)
  (fun b y=>y.cs jW (fun c=>beqB b c) jW jW qc qc noV qd qd noX)
  (fun s n y=>y.cs jW no1 (fun s' n'=>aY (Nat.beq s s') (Nat.beq n n')) jW qc qc noV qd qd noX)
  (fun s n y=>y.cs jW no1 jW (fun s' n'=>aY (Nat.beq s s') (Nat.beq n n')) qc qc noV qd qd noX)
  (fun b o n z y=>y.cs jW no1 jW jW (fun b' o' n' z'=>aY (Nat.beq b b') (aY (Nat.beq o o') (aY (Nat.beq n n') (Nat.beq z z')))) qc noV qd qd noX)
  (fun _ o n z ih y=>y.cs jW no1 jW jW qc (fun o' n' z' _=>aY (Nat.beq o o') (aY (Nat.beq n n') (Nat.beq z z'))) (fun t' b=>aY b (ih t')) qd qd noX)
  (fun _ n ih y=>y.cs jW no1 jW jW qc qc noV (fun t' n'=>aY (Nat.beq n n') (ih t')) qd noX)
  (fun _ n ih y=>y.cs jW no1 jW jW qc qc noV qd (fun t' n'=>aY (Nat.beq n n') (ih t')) noX)
  (fun g _ a b c ih y=>y.cs jW no1 jW jW qc qc noV qd qd (fun g' t' a' b' c'=>aY (aY (Nat.beq g g') (aY (Nat.beq a a') (aY (Nat.beq b b') (Nat.beq c c')))) (ih t')))
  (fun y=>Tr.rec (motive := fun _=>Bool) true (fun _ _ _ _ _=>false) y)
  (fun _ _ _ iv il ir y=>Tr.rec (motive := fun _=>Bool) false (fun v l r _ _=>aY (ir r) (aY (il l) (iv v))) y) t
def rI (h : Hp) : Bool := Hp.rec (motive := fun _=>Bool) (fun t nx pr rb=>Tr.rec (motive := fun _=>Bool) (aY (Nat.beq nx 0) (aY (Nat.beq rb 0) (List.rec (motive := fun _=>Bool) true (fun _ _ _=>false) pr))) (fun _ _ _ _ _=>false) t) h
def cD (a : Row) (v : AV) (h : Hp) (F : aF) : aF := ⟨fun l hp=>when (aY (rI hp) (wC l a)) (.val v h) (F.f l hp)⟩
end
theorem uy {h : Hp} (e : rI h = true) : h = .empty := by
  obtain ⟨t,nx,pr,rb⟩ := h
  cases t with
  | nd a b c=>exact Bool.noConfusion e
  | lf=>
    have e' : aY (Nat.beq nx 0) (aY (Nat.beq rb 0) (List.rec (motive := fun _=>Bool) true (fun _ _ _=>false) pr)) = true := e
    rw [b9,b9,aC,aC] at e'
    obtain ⟨rfl,rfl,e3⟩ := e'
    cases pr with
    | nil=>rfl
    | cons a l=>exact Bool.noConfusion e3
noncomputable def eqAa : AV → AV → Bool := fun t=>@AV.rec (fun _=>AV → Bool) (fun _=>Row → Bool)
  (fun k n y=>y.cs (fun k' n'=>aY (Nat.beq n n') (Nat.beq k k')) no1 jW jW qc qc noV qd qd noX)
  (fun b y=>y.cs jW (fun c=>beqB b c) jW jW qc qc noV qd qd noX)
  (fun s n y=>y.cs jW no1 (fun s' n'=>aY (Nat.beq s s') (Nat.beq n n')) jW qc qc noV qd qd noX)
  (fun s n y=>y.cs jW no1 jW (fun s' n'=>aY (Nat.beq s s') (Nat.beq n n')) qc qc noV qd qd noX)
  (fun b o n z y=>y.cs jW no1 jW jW (fun b' o' n' z'=>aY (Nat.beq b b') (aY (Nat.beq o o') (aY (Nat.beq n n') (Nat.beq z z')))) qc noV qd qd noX)
  (fun _ o n z ih y=>y.cs jW no1 jW jW qc (fun o' n' z' _=>aY (Nat.beq o o') (aY (Nat.beq n n') (Nat.beq z z'))) (fun t' b=>aY b (ih t')) qd qd noX)
  (fun _ n ih y=>y.cs jW no1 jW jW qc qc noV (fun t' n'=>aY (Nat.beq n n') (ih t')) qd noX)
  (fun _ n ih y=>y.cs jW no1 jW jW qc qc noV qd (fun t' n'=>aY (Nat.beq n n') (ih t')) noX)
  (fun g _ a b c ih y=>y.cs jW no1 jW jW qc qc noV qd qd (fun g' t' a' b' c'=>aY (aY (Nat.beq g g') (aY (Nat.beq a a') (aY (Nat.beq b b') (Nat.beq c c')))) (ih t')))
  (fun y=>Tr.rec (motive := fun _=>Bool) true (fun _ _ _ _ _=>false) y)
  (fun _ _ _ iv il ir y=>Tr.rec (motive := fun _=>Bool) false (fun v l r _ _=>aY (ir r) (aY (il l) (iv v))) y) t
theorem a3o : ∀ (t u : Row),wC t u = true → t = u := by
  refine @AV.rec_1 (fun a=>∀ b,eqAa a b = true → a = b) (fun t=>∀ u,wC t u = true → t = u) ?_ ?_ ?_ ?_ ?_ ?_ ?_ ?_ ?_ ?_ ?_
  · intro k n y h
    cases y with
    | int k' n'=>
      have h' : aY (Nat.beq n n') (Nat.beq k k') = true := h
      rw [b9,aC,aC] at h'
      rw [h'.1,h'.2]
    | _=>exact Bool.noConfusion h
  · intro b y h
    cases y with
    | bool c=>
      have h' : beqB b c = true := h
      revert h'; cases b <;> cases c <;> simp [beqB,de]
    | _=>exact Bool.noConfusion h
  · intro k n y h
    cases y with
    | str k' n'=>
      have h' : aY (Nat.beq k k') (Nat.beq n n') = true := h
      rw [b9,aC,aC] at h'
      rw [h'.1,h'.2]
    | _=>exact Bool.noConfusion h
  · intro k n y h
    cases y with
    | ptr k' n'=>
      have h' : aY (Nat.beq k k') (Nat.beq n n') = true := h
      rw [b9,aC,aC] at h'
      rw [h'.1,h'.2]
    | _=>exact Bool.noConfusion h
  · intro b o n z y h
    cases y with
    | ms b' o' n' z'=>
      have h' : aY (Nat.beq b b') (aY (Nat.beq o o') (aY (Nat.beq n n') (Nat.beq z z'))) = true := h
      rw [b9,b9,b9,aC,aC,aC,aC] at h'
      rw [h'.1,h'.2.1,h'.2.2.1,h'.2.2.2]
    | _=>exact Bool.noConfusion h
  · intro t o n z ih y h
    cases y with
    | vs t' o' n' z'=>
      have h' : aY (aY (Nat.beq o o') (aY (Nat.beq n n') (Nat.beq z z'))) (wC t t') = true := h
      rw [b9,b9,b9,aC,aC,aC] at h'
      rw [h'.1.1,h'.1.2.1,h'.1.2.2,ih _ h'.2]
    | _=>exact Bool.noConfusion h
  · intro t n ih y h
    cases y with
    | agg t' n'=>
      have h' : aY (Nat.beq n n') (wC t t') = true := h
      rw [b9,aC] at h'
      rw [h'.1,ih _ h'.2]
    | _=>exact Bool.noConfusion h
  · intro t n ih y h
    cases y with
    | bu t' n'=>
      have h' : aY (Nat.beq n n') (wC t t') = true := h
      rw [b9,aC] at h'
      rw [h'.1,ih _ h'.2]
    | _=>exact Bool.noConfusion h
  · intro g t a b c ih y h
    cases y with
    | x g' t' a' b' c'=>
      have h' : aY (aY (Nat.beq g g') (aY (Nat.beq a a') (aY (Nat.beq b b') (Nat.beq c c')))) (wC t t') = true := h
      rw [b9,b9,b9,b9,aC,aC,aC,aC] at h'
      rw [h'.1.1,h'.1.2.1,h'.1.2.2.1,h'.1.2.2.2,ih _ h'.2]
    | _=>exact Bool.noConfusion h
  · intro u h
    cases u with
    | lf=>rfl
    | nd a b c=>exact Bool.noConfusion h
  · intro v l r iv il ir u h
    cases u with
    | lf=>exact Bool.noConfusion h
    | nd v' l' r'=>
      have h' : aY (wC r r') (aY (wC l l') (eqAa v v')) = true := h
      rw [b9,b9] at h'
      rw [iv _ h'.2.2,il _ h'.2.1,ir _ h'.1]
noncomputable def pP (G : aF) : aF := ⟨fun l hp=>au (rI hp) (dQ mem G l hp hp fun v h=>.val v h)⟩
theorem cG {V : Env} {f : FuncId} {G : aF} (hG : ao V f G) : ao V f (pP G) := by
  intro l hp R h hR
  obtain ⟨he,h1⟩ := an hR (show au (rI hp) (dQ mem G l hp hp fun v h=>.val v h) = R from h)
  obtain rfl := uy he
  obtain ⟨hc,v,hp',e,D⟩ := a0f (a0 := l) oL hR hG (fun w F μ H=>⟨F,H,Ext.refl _ _ _ _,fun i u hu=>by
    have : μ = dI := funext fun b=>by
      cases hx : μ b with
      | none=>rfl
      | some m=>exact absurd (H.kR b m hx).1 (Nat.not_lt_zero _)
    subst this
    exact hu⟩) rfl h1
  exact ⟨hc,v,hp',e.symm,fun w μ F args n hH ha=>(D w μ F args n hH ha).mono fun e w' ⟨x,e1,μ',F',h1,hid,h2,h3⟩=>⟨x,e1,μ',F',h1,h2,.of h3 hid⟩⟩
theorem aU {V : Env} {f : FuncId} {F F' : aF} {a : Row} {v : AV} {h : Hp} (hF : ao V f F) (hF' : ao V f F') (e : F'.f a .empty = .val v h) : ao V f (cD a v h F) := by
  intro l hp R hR hne
  rcases aK hne (show when (aY (rI hp) (wC l a)) (.val v h) (F.f l hp) = R from hR) with ⟨h1,h2⟩ | ⟨_,h2⟩
  · rw [b9] at h1
    obtain rfl := uy h1.1
    obtain rfl := a3o _ _ h1.2
    exact hF' l .empty R (e.trans h2) hne
  · exact hF l hp R h2 hne
end Go.Proofs.YtpiokjcbadfalaaGreatDoor.Ev
