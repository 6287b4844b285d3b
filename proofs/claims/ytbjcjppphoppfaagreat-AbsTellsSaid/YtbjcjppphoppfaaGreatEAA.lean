import Derived.KernelRfl
import GoSem.Core.Program
import GoSem.Core.View
import GoSem.Core.Region
import GoSem.Core.Layout
set_option linter.all false
namespace Go.Proofs.YtbjcjppphoppfaaGreat.T
open Go
noncomputable section
def adj := @decide_eq_false_iff_not
def adk := @decide_eq_true_eq
def adl := @decide_eq_false
def adm := @decide_eq_true
def adn := @Bool.not_eq_true'
def ado := @List.length_append
def adp := @if_pos
def adq := @if_neg
def adr := @Bool.and_eq_true
def ads := @decide_true
def adt := @List.mem_cons_self
def adu := @Nat.eq_of_beq_eq_true
def adv := @Nat.le_of_ble_eq_true
def adw := @Nat.le_refl
def adx := @Int.toNat_natCast
def ady := @List.mem_cons_of_mem
def adz := @List.length_replicate
def adA := @if_true
def adB := @List.length_cons
def adC := @List.mem_append
def adD := @Array.getD_eq_getD_getElem?
def adE := @List.all_eq_true
def adF := @List.mem_singleton
def adG := @List.getD_eq_getElem?_getD
def adH := @List.mem_append_right
def adI := @Nat.zero_add
def adJ := @List.length_singleton
def adK := @List.mem_cons
def adL := @List.mem_range
def adM := @List.mem_append_left
def adN := @List.getD_cons_zero
def adO := @List.getD_cons_succ
def adP := @List.append_nil
def adQ := @List.append_assoc
def adR := @List.length_nil
def adS := @Nat.not_lt_zero
def adT := @List.getElem_mem
def adU := @Array.getElem?_toList
def adV := @Nat.add_assoc
def adW := @Bool.true_and
def adX := @Array.getElem?_eq_getElem
def adY := @List.length_take
def adZ := @List.all_cons
def ad_ := @List.append_eq
def ad' := @Bool.or_eq_false_iff
def ae0 := @List.length_map
def ae1 := @Nat.add_sub_cancel_left
def ae2 := @List.getElem?_eq_getElem
def ae3 := @Array.getElem?_eq_some_iff
def ae4 := @Nat.mul_le_mul_right
def ae5 := @Nat.zero_le
def ae6 := @Bool.and_eq_false_iff
def ae7 := @if_false
def ae8 := @Bool.eq_iff_iff
def ae9 := @Nat.add_zero
def aea := @List.all_nil
def aeb := @Bool.false_eq_true
def aec := @Bool.or_eq_true
def aed := @of_decide_eq_true
def aee := @List.getElem?_eq_some_iff
def aef := @Nat.lt_of_lt_of_le
def aeg := @Nat.lt_of_not_le
def aeh := @List.eq_nil_of_length_eq_zero
def aei := @Nat.add_mul
def aej := @Nat.zero_ne_one
def aek := @Nat.one_pos
def ael := @List.length_drop
def aem := @Nat.le_trans
def aen := @Nat.zero_mul
def aeo := @Nat.one_mul
def aep := @Nat.sub_self
def aeq := @Option.bind_eq_some_iff
theorem ade {p : Prop} (h : p := by omega) : p := h
theorem adf {p : Prop} [Decidable p] (h : p := by omega) : decide p = true := decide_eq_true h
theorem adg {p : Prop} [Decidable p] (h : ¬p := by omega) : decide p = false := decide_eq_false h
theorem adh {c : Prop} [h : Decidable c] {α : Sort _} {t e : α} (hc : c := by omega) : ite c t e = t := if_pos hc
theorem adi {c : Prop} [h : Decidable c] {α : Sort _} {t e : α} (hc : ¬c := by omega) : ite c t e = e := if_neg hc
def xX {α:Type}:List α->Nat->Option α
 |[],_=>none
 |a::_,0=>some a
 |_::r,n+1=>xX r n
def kc:IntKind->Nat
 | .i8=>0| .i16=>1| .i32=>2| .i64=>3| .u8=>4| .u16=>5| .u32=>6| .u64=>7
def kd:Nat->IntKind|0=> .i8|1=> .i16|2=> .i32|3=> .i64|4=> .u8|5=> .u16|6=> .u32|_=> .u64
def gy (P:Program) (t:TypeId):Option TypeInfo:=xX P.types.toList t
def Uw (P:Program):TypeDesc->Option TypeDesc
 | .named _ u=>(match gy P u with|some j=>some j.desc|none=>none)
 |d=>some d
def bU (P:Program) (t:TypeId):Option TypeDesc:=match gy P t with|some i=>Uw P i.desc|none=>none
def cg (P:Program) (t:TypeId):Nat:=match gy P t with|some i=>i.size|none=>0
def bytesOf (P:Program) (t:TypeId):Nat:=match gy P t with|some i=>i.bytes|none=>0
def zeroV (P:Program) (t:TypeId):Option Value:=match gy P t with|some i=>i.zero|none=>none
def isAgg (P:Program) (t:TypeId):Bool:=match bU P t with|some (.struct _)|some (.array ..)=>true|_=>false
def XN (P:Program) (t:TypeId):Option TypeId:=match bU P t with|some (.slice e)=>some e|_=>none
def RN (P:Program) (t:TypeId):Bool:=match bU P t with|some (.int .u8)=>true|_=>false
def isIface (P:Program) (t:TypeId):Bool:=match bU P t with|some (.interface _)=>true|_=>false
def known (P:Program) (t:TypeId):Bool:=(bU P t).isSome
def SR (P:Program) (t:TypeId):Nat:=match bU P t with|some (.array _ e)=>cg P e|_=>cg P t
def gu (fs:Array Field) (f:Nat):Nat:=match xX fs.toList f with|some x=>x.offset|none=>0
def gj (fs:Array Field) (f:Nat):TypeId:=match xX fs.toList f with|some x=>x.type|none=>0
inductive GV where
 |mk (k:Nat) (i:Int) (t:List Nat) (l:List GV) (c:Bool)
inductive Ty where
 |i (k:Nat)
 |u (k:Nat)
 |b
 |s
 |sl (e:Ty)
 |pr (a c:Ty)
 |un
 |ar (n:Nat) (e:Ty)
 |gv
 deriving DecidableEq
@[reducible] def Ty.T:Ty->Type
  | .i _=>Int
  | .u _=>Nat
  | .b=>Bool
  | .s=>List Nat
  | .sl e=>List e.T
  | .pr a c=>a.T×c.T
  | .un=>Unit
  | .ar _ e=>List e.T
  | .gv=>GV
abbrev N:=Nat
abbrev lH:Ty:= .pr (.u 4) (.pr (.i 3) (.pr .s (.pr (.sl .gv) (.pr .b .un))))
def vZ:GV->lH.T:=λv=>match v with| .mk k i t l c=>(k,i,t,l,c,())
def iP:lH.T->GV:=λx=> .mk x.1 x.2.1 x.2.2.1 x.2.2.2.1 x.2.2.2.2.1
def Ty.zero:(t:Ty)->t.T
 | .i _=>(0:Int)
 | .u _=>(0:Nat)
 | .b=>false
 | .s=>[]
 | .sl _=>[]
 | .pr a c=>(a.zero,c.zero)
 | .un=>()
 | .ar n e=>List.replicate n e.zero
 | .gv=> .mk 0 0 [] [] false
@[reducible] def fE.T:List Ty->Type
  |[]=>Unit
  |[a]=>a.T
  |a::r=>a.T×fE.T r
theorem Xs {p:Prop} (h: @decide p (Classical.propDecidable p)=true):p:=@aed p (Classical.propDecidable p) h
def gx {α:Type} (x:α):α:=Classical.choose (⟨x,rfl⟩:∃y,y=x)
theorem cG {α:Type} (x:α):gx x=x:=Classical.choose_spec (⟨x,rfl⟩:∃y,y=x)
def dec (p:Prop):Bool:=@decide p (Classical.propDecidable p)
theorem dM (p:Prop) [h:Decidable p]:dec p=decide p:=by
 have:Classical.propDecidable p=h:=Subsingleton.elim _ _;unfold dec;rw[this]
def fo (k:Nat):Nat:=match k with|0=>256|1=>65536|2=>4294967296|3=>18446744073709551616|4=>256|5=>65536|6=>4294967296|_=>18446744073709551616
def wr (k:Nat) (z:Int):Int:=Int.bmod z (fo k)
def ab (k:Nat) (x y:Int):Int:=gx (wr k (x+y))
theorem Ko (k:Nat) (x y:Int):ab k x y=wr k (x+y):=cG _
def bq (k:Nat) (x y:Int):Int:=gx (wr k (x-y))
theorem Fy (k:Nat) (x y:Int):bq k x y=wr k (x-y):=cG _
def fg (k:Nat) (x y:Int):Int:=gx (wr k (x*y))
theorem NY (k:Nat) (x y:Int):fg k x y=wr k (x*y):=cG _
def RZ (k:Nat) (x:Int):Int:=gx (wr k (-x))
theorem NZ (k:Nat) (x:Int):RZ k x=wr k (-x):=cG _
def mM (k:Nat) (x:Int):Nat:=(x %(fo k:Int)).toNat
def UK (k:Nat) (x y:Int):Int:=gx (wr k (Nat.land (mM k x) (mM k y)))
theorem UM (k:Nat) (x y:Int):UK k x y=wr k (Nat.land (mM k x) (mM k y)):=cG _
def orI (k:Nat) (x y:Int):Int:=gx (wr k (Nat.lor (mM k x) (mM k y)))
theorem a32 (k:Nat) (x y:Int):orI k x y=wr k (Nat.lor (mM k x) (mM k y)):=cG _
def Y3 (k:Nat) (x y:Int):Int:=gx (wr k (Nat.xor (mM k x) (mM k y)))
theorem Y4 (k:Nat) (x y:Int):Y3 k x y=wr k (Nat.xor (mM k x) (mM k y)):=cG _
def A3 (k:Nat) (x y:Int):Int:=gx (wr k (Nat.xor (mM k x) (Nat.land (mM k x) (mM k y))))
theorem DY (k:Nat) (x y:Int):A3 k x y=wr k (Nat.xor (mM k x) (Nat.land (mM k x) (mM k y))):=cG _
def Sr (k:Nat) (x:Int) (n:Nat):Int:=gx (wr k (x*2^n))
theorem P6 (k:Nat) (x:Int) (n:Nat):Sr k x n=wr k (x*2^n):=cG _
def JP (_k:Nat) (x:Int) (n:Nat):Int:=gx (x/2^n)
theorem Fv (_k:Nat) (x:Int) (n:Nat):JP _k x n=x/2^n:=cG _
def aO (x y:Int):Bool:=dec (x<y)
def cB (x y:Int):Bool:=dec (x<=y)
def bm (x y:Int):Bool:=dec (x=y)
def cP (k x y:Nat):Nat:=gx ((x+y) %fo k)
theorem vl (k x y:Nat):cP k x y=(x+y) %fo k:=cG _
def eE (k x y:Nat):Nat:=gx ((x+fo k-y) %fo k)
theorem Pd (k x y:Nat):eE k x y=(x+fo k-y) %fo k:=cG _
def sO (k x y:Nat):Nat:=gx (x*y %fo k)
theorem sP (k x y:Nat):sO k x y=x*y %fo k:=cG _
def fW (x y:Nat):Nat:=gx (Nat.land x y)
theorem mV (x y:Nat):fW x y=Nat.land x y:=cG _
def m8 (x y:Nat):Nat:=gx (Nat.lor x y)
theorem qZ (x y:Nat):m8 x y=Nat.lor x y:=cG _
def PA (x y:Nat):Nat:=gx (Nat.xor x y)
theorem PC (x y:Nat):PA x y=Nat.xor x y:=cG _
def UT (x y:Nat):Nat:=gx (Nat.xor x (Nat.land x y))
theorem UU (x y:Nat):UT x y=Nat.xor x (Nat.land x y):=cG _
def la (k x n:Nat):Nat:=gx (x*2^n %fo k)
theorem pY (k x n:Nat):la k x n=x*2^n %fo k:=cG _
def iV (x n:Nat):Nat:=gx (x/2^n)
theorem ke (x n:Nat):iV x n=x/2^n:=cG _
def eF (x y:Nat):Bool:=dec (x<y)
def gf (x y:Nat):Bool:=dec (x<=y)
def aR (x y:Nat):Bool:=dec (x=y)
def jX (x y:Int):Int:=gx (min x y)
theorem NX (x y:Int):jX x y=min x y:=cG _
def sM (x y:Int):Int:=gx (max x y)
theorem NW (x y:Int):sM x y=max x y:=cG _
def a0H (x y:Nat):Nat:=gx (min x y)
theorem Xm (x y:Nat):a0H x y=min x y:=cG _
def a0G (x y:Nat):Nat:=gx (max x y)
theorem Xj (x y:Nat):a0G x y=max x y:=cG _
def bF (k:Nat) (x:Int):Nat:=gx (mM k x)
theorem KF (k:Nat) (x:Int):bF k x=mM k x:=cG _
def dH (k:Nat) (x:Nat):Int:=gx (wr k x)
theorem E1 (k:Nat) (x:Nat):dH k x=wr k x:=cG _
def lF (k x:Nat):Nat:=gx (x %fo k)
theorem pt (k x:Nat):lF k x=x %fo k:=cG _
def an (x:Bool):Bool:= !x
def E4 (x y:Bool):Bool:=x==y
def cC {τ:Ty} (c:Bool) (x y:τ.T):τ.T:=bif c then x else y
def A7 (x y:List Nat):Bool:=dec (x=y)
def a7u (x y:List Nat):List Nat:=x++y
def uo (x:List Nat) (l:List (List Nat)):Bool:=dec (x∈l)
def sS (x:List Nat) (l:List (List Nat)):List (List Nat):=gx (bif dec (x∈l) then l else l++[x])
def Ty.DJ:(t:Ty)->t.T->t.T->Bool
 | .i _,x,y=>bm x y
 | .u _,x,y=>aR x y
 | .b,x,y=>E4 x y
 | .s,x,y=>A7 x y
 | .pr a c,x,y=>a.DJ x.1 y.1&&c.DJ x.2 y.2
 | .un,_,_=>true
 |_,_,_=>false
def WI {a c:Ty} (x:(Ty.pr a c).T):a.T:=x.1
def Fw {a c:Ty} (x:(Ty.pr a c).T):c.T:=x.2
def unX:Ty.un.T:=()
def Sc {a c:Ty} (x:a.T) (y:c.T):(Ty.pr a c).T:=(x,y)
def gM {e:Ty} (l:(Ty.sl e).T):N:=List.length l
def EV (l:List Nat):N:=l.length
def a8 {e:Ty} (l:(Ty.sl e).T) (n:N):e.T:=List.getD l n e.zero
def ae {e:Ty} (l:(Ty.sl e).T) (n:N) (x:e.T):(Ty.sl e).T:=List.set l n x
def av {e:Ty} (n:N) (l:(Ty.sl e).T):(Ty.sl e).T:=List.take n l
def aH {e:Ty} (n:N) (l:(Ty.sl e).T):(Ty.sl e).T:=List.drop n l
def aw {e:Ty} (l m:(Ty.sl e).T):(Ty.sl e).T:=List.append l m
def bd {e:Ty} (n:N) (x:e.T):(Ty.sl e).T:=List.replicate n x
def jg (e:Ty):(Ty.sl e).T:=[]
def bM {e:Ty} (x:e.T) (l:(Ty.sl e).T):(Ty.sl e).T:=x::l
def fP (l:List Nat) (n:N):Nat:=l.getD n 0
def XQ (l:List Nat) (o n:N):List Nat:=(l.drop o).take n
def Cv (n:N):Int:=n
def aJ (x y:N):N:=x+y
def bt (x y:N):N:=x-y
def di (x y:N):N:=min x y
def jH (n:Nat):N:=n
def Xe (_k:Nat) (z:Int):Int:=z
def Xg (_k n:Nat):Nat:=n
def Jq (b:Bool):Bool:=b
def Xf (l:List Nat):List Nat:=l
abbrev R (ρ:Type):=Option ρ
def fail {ρ:Type} (_:String):R ρ:=none
def nev {ρ:Type}:R ρ:=none
def ret {ρ:Type} (x:ρ):R ρ:=some x
def ai {ρ:Type} (n:N) (i:Int) (k:N->R ρ):R ρ:=bif dec (0<=i/\i<n) then k i.toNat else none
def Iy {ρ:Type} (n:N) (i:Nat) (k:N->R ρ):R ρ:=bif dec (i<n) then k i else none
def b_ {ρ:Type} (n:N) (i:Int) (k:N->R ρ):R ρ:=bif dec (0<=i/\i<=n) then k i.toNat else none
def UQ {ρ:Type} (n:N) (i:Nat) (k:N->R ρ):R ρ:=bif dec (i<=n) then k i else none
def bj {ρ:Type} (n:N) (k:R ρ):R ρ:=bif dec (n<=1073741824) then k else none
def O2 {ρ:Type} (y:Int) (k:R ρ):R ρ:=bif dec (y=0) then none else k
def gO {ρ:Type} (y:Nat) (k:R ρ):R ρ:=bif dec (y=0) then none else k
def wS {ρ:Type} (x y:Int) (k:R ρ):R ρ:=bif dec (0<=x/\0<y) then k else none
def Dc (k:Nat) (x y:Int):Int:=gx (wr k (Int.tdiv x y))
theorem AZ (k:Nat) (x y:Int):Dc k x y=wr k (Int.tdiv x y):=cG _
def w_ (k:Nat) (x y:Int):Int:=gx (wr k (Int.tmod x y))
theorem OY (k:Nat) (x y:Int):w_ k x y=wr k (Int.tmod x y):=cG _
def wX (x y:Nat):Nat:=gx (x/y)
theorem wY (x y:Nat):wX x y=x/y:=cG _
def eV (x y:Nat):Nat:=gx (x %y)
theorem dR (x y:Nat):eV x y=x %y:=cG _
def N' {ρ:Type} (n:N) (a b:R ρ):R ρ:=bif dec (n=0->a=b) then b else none
def allI {ρ:Type} (n:N) (x y:Int) (k:R ρ):R ρ:=bif dec (x=n/\y=n) then k else none
def jZ {ρ:Type} (y:Int) (k:N->R ρ):R ρ:=bif dec (0<=y) then k y.toNat else none
def FV {ρ:Type} (ts:List Ty) (x:R (fE.T ts)) (k:fE.T ts->R ρ):R ρ:=Option.bind x k
inductive LR (S E Q:Type) where
 |ok (s:S)
 |ex (s:E)
 |rt (q:Q)
abbrev LT (ts xs qs:List Ty):Type:=LR (fE.T ts) (fE.T xs) (fE.T qs)
def bh (ts xs qs:List Ty) (s:fE.T ts):R (LT ts xs qs):=some (.ok s)
def lex (ts xs qs:List Ty) (s:fE.T xs):R (LT ts xs qs):=some (.ex s)
def bT (ts xs qs:List Ty) (q:fE.T qs):R (LT ts xs qs):=some (.rt q)
def iter {S E Q:Type} (f:S->Option (LR S E Q)):Nat->S->Option (LR S E Q)
 |0,_=>none
 |n+1,s=>Option.bind (f s) λr=>LR.rec (iter f n) (λs=>some (.ex s)) (λq=>some (.rt q)) r
def CL {ρ:Type} (_p:List Nat) (ts xs qs:List Ty) (f:fE.T ts->R (LT ts xs qs)) (s:fE.T ts) (kx:fE.T xs->R ρ) (kr:fE.T qs->R ρ):R ρ:=
 Option.bind (iter f 9223372036854775808 s) λr=>LR.rec (λ_=>none) kx kr r
def yT {ρ:Type} (_p:List Nat) (ts:List Ty) (x:R (fE.T ts)) (k:fE.T ts->R ρ):R ρ:=Option.bind x k
def D1 {ρ:Type} (_p:List Nat) (ts xs qs:List Ty) (x:R (LT ts xs qs)) (k:fE.T ts->R ρ) (kx:fE.T xs->R ρ) (kr:fE.T qs->R ρ):R ρ:=Option.bind x λr=>LR.rec k kx kr r
theorem fM {α:Type} {p:Prop} [Decidable p] {a b:α}:(bif dec p then a else b)=if p then a else b:=by
 rw[dM];by_cases h:p<;>simp[h]
theorem A0 {ρ:Type} (n:N) (i:Int) (k:N->R ρ):ai n i k=if 0<=i/\i<n then k i.toNat else none:=fM
theorem A1 {ρ:Type} (n:N) (i:Nat) (k:N->R ρ):Iy n i k=if i<n then k i else none:=fM
theorem d4 {ρ:Type} (n:N) (i:Int) (k:N->R ρ):b_ n i k=if 0<=i/\i<=n then k i.toNat else none:=fM
theorem UR {ρ:Type} (n:N) (i:Nat) (k:N->R ρ):UQ n i k=if i<=n then k i else none:=fM
theorem dZ {ρ:Type} (n:N) (k:R ρ):bj n k=if n<=1073741824 then k else none:=fM
theorem zf {ρ:Type} (y:Int) (k:R ρ):O2 y k=if y=0 then none else k:=fM
theorem e9 {ρ:Type} (y:Nat) (k:R ρ):gO y k=if y=0 then none else k:=fM
theorem sQ {ρ:Type} (x y:Int) (k:R ρ):wS x y k=if 0<=x/\0<y then k else none:=fM
theorem Kr {ρ:Type} (n:N) (x y:Int) (k:R ρ):allI n x y k=if x=n/\y=n then k else none:=fM
theorem Xp {ρ:Type} (n:N) (a b:R ρ) [Decidable (n=0->a=b)]:N' n a b=if n=0->a=b then b else none:=fM
theorem jv {ρ:Type} (y:Int) (k:N->R ρ):jZ y k=if 0<=y then k y.toNat else none:=fM
def a39:Unit:=(λ_=>()) (@wS Unit,@O2 Unit,@N' Unit,@allI Unit,@b_ Unit,@UQ Unit,@ai Unit,@CL Unit,@D1 Unit,@jX,@w_,@Dc,Ty.DJ,Ty.zero)
def a3a:Unit:=a39
def a3b:Unit:=a3a
def a3c:Unit:=a3b
def a3d:Unit:=a3c
def a3e:Unit:=a3d
def af {ρ:Type} (c:Bool) (a b:Unit->R ρ):R ρ:=(λ_=>Bool.rec (b ()) (a ()) c) a3e
end
noncomputable section
inductive vi where
 |o_ (k:Nat)
 |rU (n:N)
inductive TV where
 |bU
 |nI
 |nl
 |v (t:Ty) (x:t.T)
 |r (j:Nat)
 |rn (j:Nat) (n:N)
 |rs (j:Nat) (o n:N)
 |p (j:Nat) (w:List vi)
 |q (t:Ty) (x:t.T)
 |un
 |pr (x y:TV)
 |tp (x:TV)
 |f (g:Nat) (x:TV) (n m:Nat)
 |cl (e:Ty) (l:(Ty.sl e).T)
 |nz (n:N)
 |sa (j:Nat) (w:List vi) (n:Nat)
 |m (j:Nat)
inductive TB where
 |row (e:Ty) (l:(Ty.sl e).T)
 |box (t:Ty) (c:TV)
 |any (c:TV)
structure TE where
 st:Nat
 b:TB
structure TS where
 fr:List TV
 hp:List TE
structure bB where
 a:List Ty
 r:List Ty
 fresh:Bool
 f:fE.T a->R (fE.T r)
structure CT where
 P:Program
 gv:Nat
 fn:List (Nat×bB)
 inl:List Nat
 vn:List (List Nat×List Nat×List Nat)
 dup:List (List Nat)
section types
variable (P:Program) (gv:Nat)
def DO (l:List (Option Ty)):Option Ty:=match l with
 |[]=>some .un
 |a::r=>match a,DO r with|some x,some y=>some (.pr x y)|_,_=>none
def tyF:Nat->TypeId->Option Ty
 |0,_=>none
 |n+1,t=>bif Nat.beq t gv then some .gv else match bU P t with
  |some .bool=>some .b
  |some .string=>some .s
  |some (.int q)=>some (bif Nat.ble (kc q) 3 then .i (kc q) else .u (kc q))
  |some (.slice e)=>(match tyF n e with|some x=>some (.sl x)|none=>none)
  |some (.array m e)=>(match tyF n e with|some x=>some (.ar m x)|none=>none)
  |some (.struct fs)=>DO (fs.toList.map λf=>tyF n f.type)
  |_=>none
def nN (t:TypeId):Option Ty:=tyF P gv 12 t
end types
def cO:Ty:= .pr .un (.sl .s)
def Ty.cells:Ty->Nat
 | .pr a c=>a.cells+c.cells
 | .un=>0
 | .ar n e=>n*e.cells
 | .gv=>5
 |_=>1
def Ty.ag:Ty->Bool
 | .pr .. | .un| .ar .. | .gv=>true
 |_=>false
def Ty.pos:Ty->Bool
 | .sl e=>Nat.ble 1 e.cells&&e.pos
 | .pr a c=>a.pos&&c.pos
 | .ar _ e=>e.pos
 |_=>true
def Ty.flat:Ty->Bool
 | .pr a c=>a.flat&&c.flat
 | .ar _ e=>e.flat
 | .sl _| .gv=>false
 |_=>true
def dy (a c:Ty) (x:a.T):Option c.T:=if h:a=c then some (h▸x) else none
def Ty.eU:Nat->Ty->Option (Ty×Nat)
 |0, .pr a _=>some (a,0)
 |k+1, .pr a c=>(match Ty.eU k c with|some (t,o)=>some (t,a.cells+o)|none=>none)
 |_,_=>none
def Ty.o_ (k:Nat):Ty->Option (Ty×Nat)
 | .gv=>Ty.eU k lH
 |t=>Ty.eU k t
def Ty.iH:List vi->Ty->Option Ty
 |[],t=>some t
 | .o_ k::w,t=>(match t.o_ k with|some (x,_)=>Ty.iH w x|none=>none)
 | .rU _::w, .ar _ e=>Ty.iH w e
 | .rU _::_,_=>none
def TB.iH (w:List vi):TB->Option Ty
 | .row e _=>(match w with| .rU _::r=>e.iH r|_=>none)
 | .box t _=>t.iH w
 | .any _=>none
def nth {α:Type} (d:α):List α->Nat->α
 |[],_=>d
 |a::_,0=>a
 |_::r,n+1=>nth d r n
def setAt {α:Type} (x:α):List α->Nat->List α
 |[],_=>[]
 |_::r,0=>x::r
 |a::r,n+1=>a::setAt x r n
def TE.bu:TE:=⟨7, .row .un (jg .un)⟩
def jo (h:List TE) (j:Nat):List TE:=setAt ⟨9,(nth .bu h j).b⟩ h j
def TS.bP (s:TS) (j:Nat):TE:=nth .bu s.hp j
def TS.new (s:TS) (b:TB):TS:=⟨s.fr,s.hp++[⟨1,b⟩]⟩
def TS.put (s:TS) (j:Nat) (e:TE):TS:=⟨s.fr,setAt e s.hp j⟩
def TV.cells:TV->Nat
 | .v t _=>t.cells
 | .pr x y=>x.cells+y.cells
 | .un=>0
 |_=>1
def TV.ag:TV->Bool
 | .v t _=>t.ag
 | .pr .. | .un=>true
 |_=>false
def eU:Nat->TV->TV
 |0, .pr a _=>a
 |k+1, .pr _ c=>eU k c
 |0, .v (.pr a c) x=> .v a (WI (a:=a) (c:=c) x)
 |k+1, .v (.pr a c) x=>eU k (.v c (Fw (a:=a) (c:=c) x))
 |_,_=> .bU
def fx (k:Nat):TV->TV
 | .v .gv x=>eU k (.v lH (vZ x))
 |x=>eU k x
def ij:List vi->TV->TV
 |[],c=>c
 | .o_ k::w,c=>ij w (fx k c)
 | .rU n::w, .v (.ar _ e) l=>ij w (.v e (a8 (e:=e) l n))
 | .rU _::_,_=> .bU
def fit:Ty->TV->Bool
 |t, .v σ _=>decide (σ=t)
 | .sl _, .nl=>true
 | .sl _, .r _=>true
 | .sl _, .rn _ _=>true
 | .sl _, .rs _ _ _=>true
 | .un, .un=>true
 | .pr a c, .pr x y=>fit a x&&fit c y
 | .gv, .pr k (.pr i (.pr t (.pr l (.pr c .un))))=>fit (.u 4) k&&(fit (.i 3) i&&(fit .s t&&(fit (.sl .gv) l&&fit .b c)))
 |_,_=>false
def HP (h:List TE) (e:Ty):TV->Option (Ty.sl e).T
 | .nl=>some (jg e)
 | .r j=>(match nth .bu h j with|⟨st, .row e' l⟩=>bif Nat.ble st 2 then dy (.sl e') (.sl e) l else none|_=>none)
 | .rn j n=>(match nth .bu h j with|⟨st, .row e' l⟩=>bif Nat.ble st 2 then dy (.sl e') (.sl e) (av (e:=e') n l) else none|_=>none)
 | .rs j o n=>(match nth .bu h j with|⟨st, .row e' l⟩=>bif Nat.ble st 2 then dy (.sl e') (.sl e) (av (e:=e') n (aH (e:=e') o l)) else none|_=>none)
 |_=>none
def vV (t:Ty):TV->Option t.T
 | .v σ x=>dy σ t x
 |_=>none
def or' {α:Type} (a b:Option α):Option α:=match a with|some x=>some x|none=>b
def a0y:TV->Option (TV×TV)
 | .pr x y=>some (x,y)
 |_=>none
def Xa:TV->Bool
 | .un=>true
 |_=>false
def pr5:TV->Option (TV×TV×TV×TV×TV)
 | .pr k (.pr i (.pr t (.pr l (.pr c .un))))=>some (k,i,t,l,c)
 |_=>none
def toW (h:List TE):(t:Ty)->TV->Option t.T
 | .i k,x=>vV (.i k) x
 | .u k,x=>vV (.u k) x
 | .b,x=>vV .b x
 | .s,x=>vV .s x
 | .ar n e,x=>vV (.ar n e) x
 | .sl e,x=>or' (vV (.sl e) x) (HP h e x)
 | .un,x=>or' (vV .un x) (bif Xa x then some () else none)
 | .pr a c,x=>or' (vV (.pr a c) x) (match a0y x with
   |some (x,y)=>(match toW h a x,toW h c y with|some p,some q=>some (Sc (a:=a) (c:=c) p q)|_,_=>none)
   |none=>none)
 | .gv,x=>or' (vV .gv x) (match pr5 x with
   |some (k,i,t,l,c)=>(match vV (.u 4) k,vV (.i 3) i,vV .s t,or' (vV (.sl .gv) l) (HP h .gv l),vV .b c with
    |some k,some i,some t,some l,some c=>some (iP (k,i,t,l,c,()))|_,_,_,_,_=>none)
   |none=>none)
def tU (h:List TE) (x:TV) (t:Ty):Option t.T:=toW h t x
def ids:TV->List Nat
 | .r j=>[j]
 | .rn j _=>[j]
 | .rs j _ _=>[j]
 | .pr x y=>ids x++ids y
 | .tp x=>ids x
 |_=>[]
def freeze (h:List TE) (l:List Nat):Option (List TE):=match l with
 |[]=>some h
 |j::r=>match nth .bu h j with
  |⟨0,_⟩=>freeze h r
  |⟨1,b⟩=>freeze (setAt ⟨0,b⟩ h j) r
  |_=>none
def TA (h:List TE) (l:List Nat):Bool:=match l with
 |[]=>true
 |j::r=>Nat.ble (nth .bu h j).st 2&&TA h r
def jQ:TV->TV
 | .v (.pr a c) x=> .pr (.v a (WI (a:=a) (c:=c) x)) (.v c (Fw (a:=a) (c:=c) x))
 | .v .un _=> .un
 | .v .gv x=>let y:=TV.v lH (vZ x); .pr (eU 0 y) (.pr (eU 1 y) (.pr (eU 2 y) (.pr (eU 3 y) (.pr (eU 4 y) .un))))
 |x=>x
def iy (f:TV->Option TV):Nat->TV->Option TV
 |0,c=>(match jQ c with| .pr a d=>(match f a with|some a=>some (.pr a d)|none=>none)|_=>none)
 |k+1,c=>(match jQ c with| .pr a d=>(match iy f k d with|some d=>some (.pr a d)|none=>none)|_=>none)
def setPath (h:List TE) (x:TV):List vi->TV->Option TV
 |[],_=>some x
 | .o_ k::w,c=>iy (setPath h x w) k c
 | .rU n::w, .v (.ar m e) l=>(match setPath h x w (.v e (a8 (e:=e) l n)) with
   |some y=>bif e.pos then(match tU h y e with|some y=>some (.v (.ar m e) (ae (e:=e) l n y))|none=>none) else none
   |none=>none)
 | .rU _::_,_=>none
def Na:List vi->Bool
 |[]=>true
 | .o_ _::w=>Na w
 | .rU _::_=>false
def mh:Value->TV
 | .int k n=>bif Nat.ble (kc k) 3 then .v (.i (kc k)) (Xe (kc k) n) else .v (.u (kc k)) (Xg (kc k) n.toNat)
 | .bool b=> .v .b (Jq b)
 | .string s=> .v .s (Xf (s.data.toList.map UInt8.toNat))
 | .slice none 0 0=> .nl
 |_=> .bU
def Ul:Value->Bool
 | .int k n=>bif Nat.ble (kc k) 3 then decide (-(fo (kc k):Int)<=2*n)&&decide (2*n<fo (kc k)) else decide (0<=n)&&decide (n<fo (kc k))
 | .string s=>Nat.ble s.size 1073741824
 | .bool _=>true
 | .slice none 0 0=>true
 |_=>false
def my:List Value->TV
 |[]=> .un
 |v::r=> .pr (mh v) (my r)
def xL:List Value->Bool
 |[]=>true
 |v::r=>Ul v&&xL r
def D_ (v:Value):TV:=match v with
 | .agg l=>bif xL l.toList then my l.toList else .bU
 |v=>bif Ul v then mh v else .bU
def iF:Ty->TV
 | .pr a c=> .pr (iF a) (iF c)
 | .un=> .un
 | .sl _=> .nl
 | .gv=> .pr (.v (.u 4) (Xg 4 0)) (.pr (.v (.i 3) (Xe 3 0)) (.pr (.v .s (Xf [])) (.pr .nl (.pr (.v .b (Jq false)) .un))))
 | .i k=> .v (.i k) (Xe k 0)
 | .u k=> .v (.u k) (Xg k 0)
 | .b=> .v .b (Jq false)
 | .s=> .v .s (Xf [])
 | .ar n e=> .v (.ar n e) (Ty.zero (.ar n e))
def kZ (k:Nat):Value->Bool
 | .int q n=>Nat.beq (kc q) k&&decide (n=0)
 |_=>false
def sF:Value->Bool
 | .string s=>Nat.beq s.size 0
 |_=>false
def wm:Value->Bool
 | .slice none 0 0=>true
 |_=>false
def Jn:Value->Bool
 | .bool b=> !b
 |_=>false
def isZero:Ty->List Value->Option (List Value)
 | .pr a c,l=>(match isZero a l with|some l=>isZero c l|none=>none)
 | .un,l=>some l
 | .ar n e,l=>zeros (isZero e) n l
 | .gv,a::b::c::d::e::l=>bif kZ 4 a&&(kZ 3 b&&(sF c&&(wm d&&Jn e))) then some l else none
 | .i k,a::l=>bif kZ k a&&Nat.ble k 3 then some l else none
 | .u k,a::l=>bif kZ k a&&(Nat.ble 4 k&&Nat.ble k 7) then some l else none
 | .b,a::l=>bif Jn a then some l else none
 | .s,a::l=>bif sF a then some l else none
 | .sl _,a::l=>bif wm a then some l else none
 |_,_=>none
where zeros (f:List Value->Option (List Value)):Nat->List Value->Option (List Value)
 |0,l=>some l
 |n+1,l=>(match f l with|some l=>zeros f n l|none=>none)
def zeroOf (t:Ty) (v:Option Value):Bool:=match v with
 |some v=>(match isZero t v.cells.toList with
  |some []=>(match v with| .agg _=>t.ag|_=> !t.ag)
  |_=>false)
 |none=>false
def own:Ty->TV->List TE->TV×List TE
 | .sl e, .nl,h=>(.r h.length,h++[⟨1, .row e (jg e)⟩])
 | .pr a c, .pr x y,h=>(match own a x h with|(x,h)=>(match own c y h with|(y,h)=>(.pr x y,h)))
 | .gv, .pr a (.pr b (.pr c (.pr .nl d))),h=>(.pr a (.pr b (.pr c (.pr (.r h.length) d))),h++[⟨1, .row .gv (jg .gv)⟩])
 |_,x,h=>(x,h)
end
noncomputable section
section code
variable (T:CT)
def dn (s:TS):Operand->TV
 | .tmp t=>nth .bU s.fr t
 | .const v=>D_ v
 | .func f=> .f f .un 0 0
 | .global _=> .bU
def yQ:TV->Bool
 | .bU=>true
 |_=>false
def k_:TV->Bool
 | .bU| .nI| .tp _=>false
 |_=>true
def CZ (s:TS) (l:List Operand):Option TV:=match l with
 |[]=>some .un
 |x::r=>bif k_ (dn s x) then(match CZ s r with|some y=>some (.pr (dn s x) y)|none=>none) else none
def oQ (d:Option Nat) (tv:TV) (s:TS):Option TS:=match d with
 |none=>some s
 |some d=>bif Nat.ble (Nat.succ d) s.fr.length then some ⟨setAt tv s.fr d,s.hp⟩ else none
def OO (d:Option Nat) (t:TypeId) (tv:TV) (s:TS):Option TS:=
 match tv with
 | .nl=>(match nN T.P T.gv t with
   |some (.sl e)=>bif Nat.ble 1 e.cells then(match own (.sl e) .nl s.hp with|(x,h)=>oQ d x ⟨s.fr,h⟩) else none
   |_=>none)
 |_=>oQ d tv s
section op
variable {ρ:Type} (s:TS)
def FB (op:BinOp) (t:TypeId) (a b:TV) (K:TV->R ρ):R ρ:=match a,b with
 | .v (.i 3) x, .v (.i 3) y=>bif (match bU T.P t with|some (.int q)=>Nat.beq (kc q) 3|_=>false) then(match op with
    | .shl=>jZ y λn=>K (.v (.i 3) (Sr 3 x n))
    | .shr=>jZ y λn=>K (.v (.i 3) (JP 3 x n))
    | .add=>K (.v (.i 3) (ab 3 x y))| .sub=>K (.v (.i 3) (bq 3 x y))| .mul=>K (.v (.i 3) (fg 3 x y))
    | .quo=>O2 y (K (.v (.i 3) (Dc 3 x y)))| .rem=>wS x y (K (.v (.i 3) (w_ 3 x y)))
    | .and=>K (.v (.i 3) (UK 3 x y))| .or=>K (.v (.i 3) (orI 3 x y))| .xor=>K (.v (.i 3) (Y3 3 x y))| .andNot=>K (.v (.i 3) (A3 3 x y))
    | .lss=>K (.v .b (aO x y))| .leq=>K (.v .b (cB x y))| .gtr=>K (.v .b (aO y x))| .geq=>K (.v .b (cB y x))
    | .eql=>K (.v .b (bm x y))| .neq=>K (.v .b (an (bm x y)))) else fail ""
 | .v (.u k) x, .v (.u k') y=>bif (match bU T.P t with|some (.int q)=>Nat.beq (kc q) k|_=>false) then(match op with
    | .shl=>K (.v (.u k) (la k x y))
    | .shr=>K (.v (.u k) (iV x y))
    |_=>bif Nat.beq k k' then(match op with
     | .add=>K (.v (.u k) (cP k x y))| .sub=>K (.v (.u k) (eE k x y))| .mul=>K (.v (.u k) (sO k x y))
     | .quo=>gO y (K (.v (.u k) (wX x y)))| .rem=>gO y (K (.v (.u k) (eV x y)))
     | .and=>K (.v (.u k) (fW x y))| .or=>K (.v (.u k) (m8 x y))| .xor=>K (.v (.u k) (PA x y))| .andNot=>K (.v (.u k) (UT x y))
     | .lss=>K (.v .b (eF x y))| .leq=>K (.v .b (gf x y))| .gtr=>K (.v .b (eF y x))| .geq=>K (.v .b (gf y x))
     | .eql=>K (.v .b (aR x y))| .neq=>K (.v .b (an (aR x y)))|_=>fail "") else fail "") else fail ""
 | .v (.u k) x, .v (.i 3) y=>bif (match bU T.P t with|some (.int q)=>Nat.beq (kc q) k|_=>false) then(match op with
    | .shl=>jZ y λn=>K (.v (.u k) (la k x n))
    | .shr=>jZ y λn=>K (.v (.u k) (iV x n))
    |_=>fail "") else fail ""
 | .v (.i 3) x, .v (.u _) y=>bif (match bU T.P t with|some (.int q)=>Nat.beq (kc q) 3|_=>false) then(match op with
    | .shl=>K (.v (.i 3) (Sr 3 x y))
    | .shr=>K (.v (.i 3) (JP 3 x y))
    |_=>fail "") else fail ""
 | .v .b x, .v .b y=>bif (match bU T.P t with|some .bool=>true|_=>false) then(match op with| .eql=>K (.v .b (E4 x y))| .neq=>K (.v .b (an (E4 x y)))|_=>fail "") else fail ""
 | .v .s x, .v .s y=>bif (match bU T.P t with|some .string=>true|_=>false) then(match op with| .eql=>K (.v .b (A7 x y))| .neq=>K (.v .b (an (A7 x y)))| .add=>bj (aJ (EV x) (EV y)) (K (.v .s (a7u x y)))|_=>fail "") else fail ""
 |_,_=>fail ""
def Ty.kinds:Ty->Option (List Nat)
 | .pr a c=>(match a.kinds,c.kinds with|some x,some y=>some (x++y)|_,_=>none)
 | .un=>some []
 | .i k=>some [k+2]
 | .u k=>some [k+2]
 | .b=>some [0]
 | .s=>some [1]
 |_=>none
def mj (f:TypeId->Option (List Nat)):List Field->Nat->Option (List Nat)
 |[],_=>some []
 |x::r,o=>bif Nat.beq x.offset o&& !(x.name== "_") then(match f x.type with
  |some a=>(match mj f r (o+a.length) with|some b=>some (a++b)|none=>none)
  |none=>none) else none
def IB (P:Program):Nat->TypeId->Option (List Nat)
 |0,_=>none
 |n+1,t=>match(match bU P t with
  |some .bool=>some [0]
  |some .string=>some [1]
  |some (.int q)=>some [kc q+2]
  |some (.struct fs)=>bif P.stoodInHeld t then none else mj (IB P n) fs.toList 0
  |_=>none) with
  |some l=>bif Nat.beq l.length (cg P t) then some l else none
  |none=>none
def Ax (a b:Option (List Nat)):Bool:=match a,b with
 |some a,some b=>decide (a=b)
 |_,_=>false
def SD (op:BinOp) (t:TypeId) (a b:TV) (K:TV->R ρ):R ρ:=match nN T.P T.gv t with
 |some ty=>bif Ax (IB T.P 20 t) ty.kinds&&ty.ag&&(match bU T.P t with|some (.struct _)=>true|_=>false) then(match tU s.hp a ty,tU s.hp b ty with
  |some p,some q=>(match op with| .eql=>K (.v .b (ty.DJ p q))| .neq=>K (.v .b (an (ty.DJ p q)))|_=>fail "")
  |_,_=>fail "") else fail ""
 |_=>fail ""
def ir (t:TypeId):Bool:=match bU T.P t with|some (.struct _)=>true|_=>false
def YH (op:UnOp) (a:TV) (K:TV->R ρ):R ρ:=match op,a with
 | .neg, .v (.i 3) x=>K (.v (.i 3) (RZ 3 x))
 | .not, .v .b x=>K (.v .b (an x))
 |_,_=>fail ""
def kM (t d:TypeId) (a:TV) (K:TV->TS->R ρ):R ρ:=match bU T.P t,bU T.P d with
 |some (.int _),some (.int kk)=>(match a with
  | .v (.i 3) x=>bif Nat.beq (kc kk) 3 then K (.v (.i 3) x) s else bif Nat.ble 4 (kc kk) then K (.v (.u (kc kk)) (bF (kc kk) x)) s else fail ""
  | .v (.u k) x=>bif Nat.beq (kc kk) 3 then K (.v (.i 3) (dH 3 x)) s else bif Nat.ble 4 (kc kk) then(bif Nat.beq (kc kk) k then K (.v (.u k) x) s else K (.v (.u (kc kk)) (lF (kc kk) x)) s) else fail ""
  |_=>fail "")
 |some .string,some .string=>(match a with| .v .s x=>K (.v .s x) s|_=>fail "")
 |some .string,some (.slice e)=>bif RN T.P e then(match a with| .v .s x=>bj (EV x) (K (.r s.hp.length) (s.new (.row (.u 4) x)))|_=>fail "") else fail ""
 |some (.slice e),some .string=>bif RN T.P e then(match tU s.hp a (.sl (.u 4)) with|some x=>K (.v .s x) s|none=>fail "") else fail ""
 |_,_=>fail ""
def parts (fs:Array Field) (ty:Ty) (l:List (Nat×Operand)) (z:TV):Option TV:=match l with
 |[]=>some z
 |(i,x)::r=>match ty.o_ i,iy (λ_=>some (dn s x)) i z with
  |some (u,o),some z=>bif fit u (dn s x)&&(Nat.beq o (gu fs i)&&(Nat.beq u.cells (cg T.P (gj fs i))&&Nat.ble 1 u.cells)) then parts fs ty r z else none
  |_,_=>none
def elems (e:Ty) (m:Nat) (l:List (Nat×Operand)) (z:(Ty.sl e).T):Option (Ty.sl e).T:=match l with
 |[]=>some z
 |(i,x)::r=>match tU s.hp (dn s x) e with
  |some y=>bif Nat.ble (Nat.succ i) m then elems e m r (ae (e:=e) z (jH i) y) else none
  |none=>none
def jr (l:List (Nat×Operand)):List Nat:=match l with
 |[]=>[]
 |(_,x)::r=>ids (dn s x)++jr r
def FH (l:List (Nat×Operand)):Bool:=match l with
 |[]=>false
 |(_,x)::r=>yQ (dn s x)||FH r
def xf (e:Ty):List (Nat×Operand)->Nat->Option (Ty.sl e).T
 |[],_=>some (jg e)
 |(i,x)::r,n=>bif Nat.beq i n then(match tU s.hp (dn s x) e,xf e r (Nat.succ n) with|some y,some l=>some (bM (e:=e) y l)|_,_=>none) else none
def a7p (n:Nat) (l:List (Nat×Operand)):Bool:=l.all λp=>Nat.ble (Nat.succ p.1) n
def WA (o z:Nat->Nat) (n:Nat) (l:List (Nat×Operand)):Bool:=l.all λp=>Nat.ble (o p.1+z p.1) n
def Dq (P:Program) (t:TypeId) (fs:Array Field) (ps:List (Nat×Operand)):Bool:=
 fs.toList.all (λf=>known P f.type)&&(a7p fs.size ps&&WA (gu fs) (λi=>cg P (gj fs i)) (cg P t) ps)
def pZ (t:TypeId) (ps:List (Nat×Operand)) (K:TV->TS->R ρ):R ρ:=match bU T.P t,nN T.P T.gv t with
 |some (.array n e),some (.ar m ε)=>bif (known T.P e&&WA (λi=>i*cg T.P e) (λ_=>cg T.P e) (cg T.P t) ps)&&(Nat.beq n m&&(zeroOf (.ar m ε) (zeroV T.P t)&&(Nat.beq (cg T.P e) ε.cells&&(Nat.beq (cg T.P t) (Ty.ar m ε).cells&&(Nat.ble 1 ε.cells&&ε.pos)))))&& !FH s ps then
  (match freeze s.hp (jr s ps),elems s ε m ps (Ty.zero (.ar m ε)) with
  |some h,some x=>K (.v (.ar m ε) x) ⟨s.fr,h⟩
  |none,_=>fail ""
  |_,_=>fail "") else fail ""
 |some (.struct fs),some ty=>bif Dq T.P t fs ps&&(zeroOf ty (zeroV T.P t)&&(Nat.beq (cg T.P t) ty.cells&&(ty.ag&&ty.pos))) then
  (match parts T s fs ty ps (iF ty) with|some x=>bif fit ty x then K x s else fail ""|none=>fail "") else fail ""
 |_,_=>fail ""
def fV (t:TypeId) (n:Nat) (ps:List (Nat×Operand)) (K:TV->TS->R ρ):R ρ:=match XN T.P t,nN T.P T.gv t with
 |some e,some (.sl ε)=>let z:=cg T.P e
  bif (Nat.ble 1 z&&(Nat.ble (n*z) 16777216&&WA (λi=>i*z) (λ_=>z) (n*z) ps))&&(Nat.beq z ε.cells&&(zeroOf ε (zeroV T.P e)&&ε.pos))&& !FH s ps then
  (match freeze s.hp (jr s ps),(bif Nat.beq ps.length n then or' (xf s ε ps 0) (elems s ε n ps (bd (e:=ε) (jH n) ε.zero)) else elems s ε n ps (bd (e:=ε) (jH n) ε.zero)) with
  |some h,some x=>K (.r h.length) (TS.new ⟨s.fr,h⟩ (.row ε x))
  |none,_=>fail ""
  |_,_=>fail "") else fail ""
 |_,_=>fail ""
def yN (t:TypeId):Bool:=match bU T.P t with
 |some (.map k e)=>(match bU T.P k with|some .string=>true|_=>false)&&zeroOf .b (zeroV T.P e)
 |_=>false
def nL (t:TypeId) (K:TV->TS->R ρ):R ρ:=bif yN T t then K (.m s.hp.length) (s.new (.box cO (.v cO (Sc (a:= .un) (c:= .sl .s) unX (jg .s))))) else fail ""
def kN (t:TypeId) (m k:TV) (K:TV->R ρ):R ρ:=bif yN T t then(match m,k with
 | .m j, .v .s x=>(match s.bP j with
   |⟨st, .box _ (.v σ y)⟩=>bif Nat.ble st 2 then(match dy σ cO y with|some y=>K (.v .b (uo x (Fw (a:= .un) (c:= .sl .s) y)))|none=>fail "") else fail ""
   |_=>fail "")
 |_,_=>fail "") else fail ""
def kO (t:TypeId) (m k:TV) (K:TS->R ρ):R ρ:=bif yN T t then(match m,k with
 | .m j, .v .s x=>(match s.bP j with
   |⟨1, .box τ (.v σ y)⟩=>(match dy σ cO y with|some y=>K (s.put j ⟨1, .box τ (.v cO (Sc (a:= .un) (c:= .sl .s) unX (sS x (Fw (a:= .un) (c:= .sl .s) y))))⟩)|none=>fail "")
   |⟨st,_⟩=>fail "")
 |_,_=>fail "") else fail ""
def BU (t:TypeId) (n:Nat):Bool:=Nat.beq (cg T.P t) n&&(Nat.ble 1 n&&(Nat.ble 1 (SR T.P t)&&Nat.beq (Nat.mod n (SR T.P t)) 0))
def mB (t:TypeId) (a:Option TV) (K:TV->TS->R ρ):R ρ:=match nN T.P T.gv t with
 |some ty=>bif BU T t ty.cells&&ty.pos then(match a with
   |none=>bif zeroOf ty (zeroV T.P t) then(match own ty (iF ty) s.hp with|(x,h)=>K (.p h.length []) (TS.new ⟨s.fr,h⟩ (.box ty x))) else fail ""
   |some a=>bif fit ty a then(match own ty a s.hp with|(x,h)=>K (.p h.length []) (TS.new ⟨s.fr,h⟩ (.box ty x))) else fail "") else fail ""
 |none=>match a with
  |some a=>bif BU T t 1&&(Nat.beq a.cells 1&& !a.ag&&k_ a) then K (.p s.hp.length []) (s.new (.any a)) else fail ""
  |none=>fail ""
def Ky (w:List vi):TB->TV
 | .row e l=>(match w with| .rU n::w=>ij w (.v e (a8 (e:=e) l n))|_=> .bU)
 | .box _ c=>ij w c
 | .any c=>(match w with|[]=>c|_=> .bU)
def alive (h:List TE):TV->Bool
 | .r j=>Nat.ble (nth .bu h j).st 2
 | .rn j _=>Nat.ble (nth .bu h j).st 2
 | .rs j _ _=>Nat.ble (nth .bu h j).st 2
 | .p j _=>Nat.ble (nth .bu h j).st 2
 |_=>true
def wy (h:List TE) (t:TypeId) (x:TV):Bool:=(k_ x&&alive h x)&&(known T.P t&&(Nat.beq x.cells (cg T.P t)&&(Nat.ble 1 x.cells&&Bool.not (xor x.ag (isAgg T.P t)))))
def nJ (t:TypeId) (a:TV) (K:TV->R ρ):R ρ:=match a with
 | .q τ x=>bif wy T s.hp t (.v τ x) then K (.v τ x) else fail ""
 | .p j w=>(match s.bP j with
   |⟨st,b⟩=>bif Nat.ble st 2 then(bif wy T s.hp t (Ky w b) then K (Ky w b) else fail "") else fail "")
 |_=>fail ""
def Bj (t:TypeId) (x:TV):Bool:=k_ x&&(Nat.beq x.cells (cg T.P t)&&Nat.ble 1 x.cells)
def nM (t:TypeId) (a x:TV) (K:TS->R ρ):R ρ:=bif Bj T t x then(match a with
 | .p j w=>(match s.bP j with
   |⟨1, .row e l⟩=>(match w with
    | .rU n::w=>(match e.iH w with
      |some u=>bif fit u x&&e.pos then(match freeze s.hp (ids x),setPath s.hp x w (.v e (a8 (e:=e) l n)) with
       |some h,some y=>(match tU s.hp y e with|some y=>(match nth .bu h j with|⟨1,_⟩=>K ⟨s.fr,setAt ⟨1, .row e (ae (e:=e) l n y)⟩ h j⟩|_=>fail "")|none=>fail "")
       |none,_=>fail ""
       |_,_=>fail "") else fail ""
      |none=>fail "")
    |_=>fail "")
   |⟨1, .box t c⟩=>(match t.iH w with
      |some u=>bif fit u x&&u.pos then(bif Na w then(match own u x s.hp with|(x,h)=>(match setPath s.hp x w c with|some c=>K ⟨s.fr,setAt ⟨1, .box t c⟩ h j⟩|none=>fail ""))
       else(match freeze s.hp (ids x),setPath s.hp x w c with
        |some h,some c=>(match nth .bu h j with|⟨1,_⟩=>K ⟨s.fr,setAt ⟨1, .box t c⟩ h j⟩|_=>fail "")
        |none,_=>fail ""
        |_,_=>fail "")) else fail ""
      |none=>fail "")
   |⟨1, .any _⟩=>bif w.isEmpty&&(Nat.beq x.cells 1&& !x.ag) then K ⟨s.fr,setAt ⟨1, .any x⟩ s.hp j⟩ else fail ""
   |⟨st,_⟩=>fail "")
 |_=>fail "") else fail ""
def iW (t:TypeId) (k:Nat) (a:TV) (K:TV->R ρ):R ρ:=match bU T.P t,nN T.P T.gv t with
 |some (.struct fs),some ty=>(match ty.o_ k with
  |some (u,o)=>bif Nat.beq o (gu fs k)&&(Nat.ble (Nat.succ k) fs.size&&Nat.ble 1 (cg T.P (gj fs k))) then(match a with
   | .q σ x=>(match dy σ ty x with|some x=>(match fx k (.v ty x) with| .v u' x=>bif decide (u'=u) then K (.q u' x) else fail ""|_=>fail "")|none=>fail "")
   | .p j w=>(match(s.bP j).b.iH w with|some τ=>bif decide (τ=ty)&&Nat.ble (s.bP j).st 2 then K (.p j (w++[.o_ k])) else fail ""|none=>fail "")
   |_=>fail "") else fail ""
  |none=>fail "")
 |_,_=>fail ""
def BW (n:N) (i:TV) (K:N->R ρ):R ρ:=match i with
 | .v (.i 3) x=>ai n x K
 | .v (.u _) x=>Iy n x K
 |_=>fail ""
def K1 (n:N) (i:TV) (K:N->R ρ):R ρ:=match i with
 | .v (.i 3) x=>b_ n x K
 | .v (.u _) x=>UQ n x K
 |_=>fail ""
def iX (t:TypeId) (a i:TV) (K:TV->R ρ):R ρ:=match bU T.P t with
 |some (.slice ε)=>bif Nat.ble 1 (cg T.P ε) then(match a with
  | .v (.sl e) l=>bif Nat.beq (cg T.P ε) e.cells then BW (gM (e:=e) l) i λn=>K (.q e (a8 (e:=e) l n)) else fail ""
  | .r j=>(match s.bP j with|⟨st, .row e l⟩=>bif Nat.ble st 2&&Nat.beq (cg T.P ε) e.cells then BW (gM (e:=e) l) i λm=>K (.p j [.rU m]) else fail ""|_=>fail "")
  | .rn j n=>(match s.bP j with|⟨st, .row e _⟩=>bif Nat.ble st 2&&Nat.beq (cg T.P ε) e.cells then BW n i λm=>K (.p j [.rU m]) else fail ""|_=>fail "")
  | .rs j o n=>(match s.bP j with|⟨st, .row e _⟩=>bif Nat.ble st 2&&Nat.beq (cg T.P ε) e.cells then BW n i λm=>K (.p j [.rU (aJ o m)]) else fail ""|_=>fail "")
  |_=>fail "") else fail ""
 |some (.array k ε)=>bif Nat.ble 1 (cg T.P ε) then(match a with
  | .q (.ar m e) l=>bif Nat.beq k m&&Nat.beq (cg T.P ε) e.cells then BW (jH m) i λn=>K (.q e (a8 (e:=e) l n)) else fail ""
  | .p j w=>(match(s.bP j).b.iH w with|some (.ar m e)=>bif (Nat.beq k m&&Nat.beq (cg T.P ε) e.cells)&&Nat.ble (s.bP j).st 2 then BW (jH m) i λn=>K (.p j (w++[.rU n])) else fail ""|_=>fail "")
  |_=>fail "") else fail ""
 |_=>fail ""
def te (t:TypeId) (a i:TV) (K:TV->R ρ):R ρ:=match bU T.P t with
 |some (.array n ε)=>(match a with| .v (.ar m e) l=>bif Nat.beq n m&&(Nat.beq (cg T.P ε) e.cells&&(Nat.ble 1 e.cells&&(known T.P ε&&Bool.not (xor e.ag (isAgg T.P ε))))) then BW (jH m) i λn=>K (.v e (a8 (e:=e) l n)) else fail ""|_=>fail "")
 |some .string=>(match a with| .v .s l=>BW (EV l) i λn=>K (.v (.u 4) (fP l n))|_=>fail "")
 |_=>fail ""
def td (t:TypeId) (k:Nat) (a:TV) (K:TV->R ρ):R ρ:=match bU T.P t,nN T.P T.gv t with
 |some (.struct fs),some ty=>(match ty.o_ k with
  |some (u,o)=>bif Nat.beq o (gu fs k)&&(Nat.ble (Nat.succ k) fs.size&&(Nat.ble 1 (cg T.P (gj fs k))&&(known T.P (gj fs k)&&(fit ty a&&(k_ a&&(a.ag&&(k_ (fx k a)&&(Nat.beq (fx k a).cells (cg T.P (gj fs k))&&Bool.not (xor (fx k a).ag (isAgg T.P (gj fs k))))))))))) then K (fx k a) else fail ""
  |none=>fail "")
 |_,_=>fail ""
def Bp (t:TypeId) (a:TV) (K:N->R ρ):R ρ:=match bU T.P t with
 |some (.array n _)=>bif Nat.ble n 9223372036854775807 then K (jH n) else fail ""
 |some .string=>(match a with| .v .s l=>K (EV l)|_=>fail "")
 |some (.slice _)=>(match a with
  | .v (.sl e) l=>K (gM (e:=e) l)
  | .r j=>(match s.bP j with|⟨st, .row e l⟩=>bif Nat.ble st 2 then K (gM (e:=e) l) else fail ""|_=>fail "")
  | .rn j n=>(match s.bP j with|⟨st, .row _ _⟩=>bif Nat.ble st 2 then K n else fail ""|_=>fail "")
  | .rs j _ n=>(match s.bP j with|⟨st, .row _ _⟩=>bif Nat.ble st 2 then K n else fail ""|_=>fail "")
  | .nl=>K (jH 0)
  |_=>fail "")
 |_=>fail ""
def im (n:N) (lo hi:Option TV) (K:Bool->N->N->R ρ):R ρ:=match hi with
 |none=>(match lo with|none=>K true (jH 0) n|some l=>K1 n l λl=>K false l (bt n l))
 |some h=>K1 n h λh=>(match lo with|none=>K true (jH 0) h|some l=>K1 h l λl=>K false l (bt h l))
def th (t:TypeId) (a:TV) (lo hi:Option TV) (K:TV->R ρ):R ρ:=match bU T.P t with
 |some .string=>(match a with| .v .s l=>im (EV l) lo hi λ_ o n=>K (.v .s (XQ l o n))|_=>fail "")
 |some (.slice ε)=>bif Nat.ble 1 (cg T.P ε) then(match a with
  | .v (.sl e) l=>bif Nat.beq (cg T.P ε) e.cells then im (gM (e:=e) l) lo hi λ_ o n=>K (.v (.sl e) (av (e:=e) n (aH (e:=e) o l))) else fail ""
  | .r j=>(match s.bP j with|⟨st, .row e l⟩=>bif Nat.ble st 2&&Nat.beq (cg T.P ε) e.cells then im (gM (e:=e) l) lo hi λz o m=>K (bif z then .rn j m else .rs j o m) else fail ""|_=>fail "")
  | .rn j n=>(match s.bP j with|⟨st, .row e _⟩=>bif Nat.ble st 2&&Nat.beq (cg T.P ε) e.cells then im n lo hi λz o m=>K (bif z then .rn j m else .rs j o m) else fail ""|_=>fail "")
  | .rs j o n=>(match s.bP j with|⟨st, .row e _⟩=>bif Nat.ble st 2&&Nat.beq (cg T.P ε) e.cells then im n lo hi λ_ p m=>K (.rs j (aJ o p) m) else fail ""|_=>fail "")
  |_=>fail "") else fail ""
 |some (.array n ε)=>(match lo,hi,a with
  |none,none, .p j w=>(match(s.bP j).b.iH w with
   |some (.ar m e)=>bif Nat.beq m n&&(Nat.ble 1 (cg T.P ε)&&Nat.ble n 1073741824) then K (.sa j w n) else fail ""
   |_=>fail "")
  |_,_,_=>fail "")
 |_=>fail ""
def O0:Operand->Bool
 | .const v=>wm v
 |_=>false
def FG (op:BinOp) (t:TypeId) (a:TV) (K:TV->R ρ):R ρ:=match bU T.P t with
 |some (.slice _)=>(match op,a with
  | .eql, .v (.sl e) l=>K (.nz (gM (e:=e) l))
  |_,_=>fail "")
 |_=>fail ""
def zJ (t:TypeId) (a hi mx:TV) (K:TV->R ρ):R ρ:=match bU T.P t with
 |some (.slice ε)=>bif Nat.ble 1 (cg T.P ε) then(match a with
  | .v (.sl e) l=>bif Nat.beq (cg T.P ε) e.cells then(match hi,mx with
    | .v (.i 3) x, .v (.i 3) y=>allI (gM (e:=e) l) x y (K (.cl e l))
    |_,_=>fail "") else fail ""
  |_=>fail "") else fail ""
 |_=>fail ""
def toSeq (h:List TE) (a:TV) (e:Ty):Option (Ty.sl e).T:=match a with
 | .v .s l=>dy (.sl (.u 4)) (.sl e) l
 |_=>tU h a (.sl e)
def yt (e:TypeId) (ε:Ty):Bool:=(Nat.ble (bytesOf T.P e) 65536&&(Nat.ble 1 (cg T.P e)&&zeroOf ε (zeroV T.P e)))&&(Nat.beq (cg T.P e) ε.cells&&ε.pos)
def NB (t:TypeId):Bool:=match bU T.P t with|some (.slice _)|some .string=>true|_=>false
def ov (t u:TypeId) (a b:TV) (K:TV->TS->R ρ):R ρ:=match XN T.P t,nN T.P T.gv t with
 |some ε,some (.sl e)=>bif yt T ε e&&(NB T u) then(match toSeq s.hp b e with
  |some m=>(match freeze s.hp (ids b) with
   |some h=>(match a with
    | .r j=>(match nth .bu h j with
      |⟨1, .row e' l⟩=>(match dy (.sl e') (.sl e) l with
       |some l=>bj (aJ (gM (e:=e) l) (gM (e:=e) m)) (K (.r h.length) (TS.new ⟨s.fr,jo h j⟩ (.row e (aw (e:=e) l m))))
       |none=>fail "")
      |⟨st,_⟩=>fail "")
    | .rn j n=>(match nth .bu h j with
      |⟨1, .row e' l⟩=>(match dy (.sl e') (.sl e) (av (e:=e') n l) with
       |some l=>bj (aJ (gM (e:=e) l) (gM (e:=e) m)) (K (.r h.length) (TS.new ⟨s.fr,jo h j⟩ (.row e (aw (e:=e) l m))))
       |none=>fail "")
      |⟨st,_⟩=>fail "")
    | .cl e' l=>(match dy (.sl e') (.sl e) l with
      |some l=>gO (gM (e:=e) m) (bj (aJ (gM (e:=e) l) (gM (e:=e) m)) (K (.r h.length) (TS.new ⟨s.fr,h⟩ (.row e (aw (e:=e) l m)))))
      |none=>fail "")
    | .v .. =>fail ""
    |_=>fail "")
   |none=>fail "")
  |none=>fail "") else fail ""
 |_,_=>fail ""
def zK (t:TypeId) (a b:TV) (K:TV->TS->R ρ):R ρ:=match XN T.P t,nN T.P T.gv t with
 |some ε,some (.sl e)=>bif Nat.ble 1 (cg T.P ε)&&Nat.beq (cg T.P ε) e.cells&&e.flat&&e.pos then(match toSeq s.hp b e with
  |some m=>(match a with
   | .r j=>(match s.bP j with
     |⟨1, .row e' l⟩=>(match dy (.sl e') (.sl e) l with
      |some l=>K (.v (.i 3) (Cv (di (gM (e:=e) l) (gM (e:=e) m)))) (s.put j ⟨1, .row e (aw (e:=e) (av (e:=e) (di (gM (e:=e) l) (gM (e:=e) m)) m) (aH (e:=e) (di (gM (e:=e) l) (gM (e:=e) m)) l))⟩)
      |none=>fail "")
     |⟨st,_⟩=>fail "")
   | .rs j o n=>(match s.bP j with
     |⟨1, .row e' l⟩=>(match dy (.sl e') (.sl e) l with
      |some l=>K (.v (.i 3) (Cv (di n (gM (e:=e) m)))) (s.put j ⟨1, .row e (aw (e:=e) (av (e:=e) o l) (aw (e:=e) (av (e:=e) (di n (gM (e:=e) m)) m) (aH (e:=e) (aJ o (di n (gM (e:=e) m))) l)))⟩)
      |none=>fail "")
     |⟨st,_⟩=>fail "")
   | .sa j w n=>(match s.bP j with
     |⟨1, .box ty c⟩=>(match ty.iH w,ij w c with
      |some (.ar n' e'), .v (.ar n2 e2) l=>bif Na w&&(decide (e'=e)&&(Nat.beq n' n&&Nat.ble n 1073741824)) then(match dy (.ar n2 e2) (.ar n e) l with
       |some l=>(match setPath s.hp (.v (.ar n e) (aw (e:=e) (av (e:=e) (di (jH n) (gM (e:=e) m)) m) (aH (e:=e) (di (jH n) (gM (e:=e) m)) l))) w c with
        |some c=>K (.v (.i 3) (Cv (di (jH n) (gM (e:=e) m)))) (s.put j ⟨1, .box ty c⟩)
        |none=>fail "")
       |none=>fail "") else fail ""
      |_,_=>fail "")
     |⟨st,_⟩=>fail "")
   |_=>fail "")
  |none=>fail "") else fail ""
 |_,_=>fail ""
def ta (t:TypeId) (a:TV) (K:TV->TS->R ρ):R ρ:=match XN T.P t,nN T.P T.gv t with
 |some ε,some (.sl e)=>bif Nat.ble 1 (cg T.P ε)&&(Nat.beq (cg T.P ε) e.cells&&(zeroOf e (zeroV T.P ε)&&e.pos)) then(match a with
  | .rs j o n=>(match s.bP j with
    |⟨1, .row e' l⟩=>(match dy (.sl e') (.sl e) l with
     |some l=>K .bU (s.put j ⟨1, .row e (aw (e:=e) (av (e:=e) o l) (aw (e:=e) (bd (e:=e) n e.zero) (aH (e:=e) (aJ o n) l)))⟩)
     |none=>fail "")
    |⟨st,_⟩=>fail "")
  |_=>fail "") else fail ""
 |_,_=>fail ""
def Bc (a b:Operand):Bool:=match a,b with| .tmp x, .tmp y=>Nat.beq x y|_,_=>false
def xq (t:TypeId) (same:Bool) (a b:TV) (K:TV->TS->R ρ):R ρ:=match XN T.P t,nN T.P T.gv t with
 |some ε,some (.sl e)=>bif (Nat.ble 1 (cg T.P ε)&&Nat.ble (bytesOf T.P ε) 65536)&&(Nat.beq (cg T.P ε) e.cells&&((zeroOf e (zeroV T.P ε)&&e.pos)&&same)) then
   K1 (jH 1073741824) a λn=>K (.r s.hp.length) (s.new (.row e (bd (e:=e) n e.zero)))
  else fail ""
 |_,_=>fail ""
def mC (mx:Bool) (a b:TV) (K:TV->R ρ):R ρ:=match a,b with
 | .v (.i 3) x, .v (.i 3) y=>K (.v (.i 3) (bif mx then sM x y else jX x y))
 | .v (.u k) x, .v (.u k') y=>bif Nat.beq k k' then K (.v (.u k) (bif mx then a0G x y else a0H x y)) else fail ""
 |_,_=>fail ""
def zM (c a b:TV) (K:TV->R ρ):R ρ:=match c with
 | .v .b c=>(match a,b with
   | .v .b x, .v .b y=>K (.v .b (cC (τ:= .b) c x y))
   |a,b=>af c (λ_=>bif yQ a then fail "" else K a) λ_=>bif yQ b then fail "" else K b)
 |_=>fail ""
def C0:Nat->TV->TV
 |0, .pr a _=>a
 |k+1, .pr _ c=>C0 k c
 |_,_=> .bU
def lA (h:List TE):(ts:List Ty)->TV->Option (fE.T ts)
 |[], .un=>some ()
 |[a], .pr x .un=>tU h x a
 |a::b::r, .pr x y=>(match tU h x a,lA h (b::r) y with|some p,some q=>some (p,q)|_,_=>none)
 |_,_=>none
def unpack:(ts:List Ty)->fE.T ts->TV
 |[],_=> .un
 |[a],x=> .pr (.v a x) .un
 |a::b::r,x=> .pr (.v a x.1) (unpack (b::r) x.2)
def uq:(t:Ty)->t.T->List TE->TV×List TE
 | .sl e,l,h=>(.r h.length,h++[⟨1, .row e l⟩])
 | .pr a c,x,h=>bif (Ty.pr a c).flat then(.v (.pr a c) x,h) else(match uq a (WI (a:=a) (c:=c) x) h with|(x1,h)=>(match uq c (Fw (a:=a) (c:=c) x) h with|(y1,h)=>(.pr x1 y1,h)))
 |t,x,h=>(.v t x,h)
def pS:(ts:List Ty)->fE.T ts->List TE->TV×List TE
 |[],_,h=>(.un,h)
 |[a],x,h=>(match uq a x h with|(x,h)=>(.pr x .un,h))
 |a::b::r,x,h=>(match uq a x.1 h with|(x1,h)=>(match pS (b::r) x.2 h with|(y,h)=>(.pr x1 y,h)))
def mL (rs:List Ty) (x:TV):TV:=match rs,x with
 |[_], .pr x _=>x
 |_,x=> .tp x
def flatAll (l:List Ty):Bool:=match l with|[]=>true|a::r=>a.flat&&flatAll r
def HS (F:bB) (a:TV) (K:TV->TS->R ρ):R ρ:=
 bif TA s.hp (ids a) then(match lA s.hp F.a a with
  |some x=>(match(bif flatAll F.r||F.fresh then some s.hp else freeze s.hp (ids a)) with
   |some h=>FV F.r (F.f x) λy=>
     (match(bif F.fresh then pS F.r y h else(unpack F.r y,h)) with|(y,h)=>K (mL F.r y) ⟨s.fr,h⟩)
   |none=>fail "")
  |none=>fail "") else fail ""
end op
end code
end
end Go.Proofs.YtbjcjppphoppfaaGreat.T
