import Derived.Test.YtbjcjppphoppfaaGreatEAA
import GoSem.Machine.Frame
import Derived.CallsIn
import Derived.Deep.AppendSrc
import Derived.Deep.MidRow
import Derived.Deep.Upon
set_option linter.all false
namespace Go.Proofs.YtbjcjppphoppfaaGreat.T
open Go
noncomputable section
section code
variable (T:CT)
def kI (l:List Operand):List Nat:=match l with|[]=>[]| .tmp t::r=>t::kI r|_::r=>kI r
def f_ (ops:Array Oper) (o:Oper):List Nat:=match o.guard with
 |none=>kI o.op.operands.toList
 |some (j,_)=>match(ops[j]?).bind (·.dst) with|some t=>t::kI o.op.operands.toList|none=>kI o.op.operands.toList
def bit (m i:Nat):Bool:=Nat.beq (Nat.mod (Nat.div m (Nat.pow 2 i)) 2) 1
def ik (e:Edge):Bool:=Region.binds .any e
def iS (l:List Nat) (n:Nat):List Edge->Nat
 |[]=>0
 |e::r=>bif ik e then Nat.lor (iS l n r) (Nat.lor (Nat.pow 2 e.on) (nth 0 l (Nat.sub (Nat.sub n 1) e.on))) else iS l n r
def pN:List Oper->List Nat->Nat->List Nat
 |[],acc,_=>acc
 |o::r,acc,n=>pN r (iS acc n o.after.toList::acc) (Nat.succ n)
def kQ:List Oper->Nat->Bool
 |[],_=>true
 |o::r,n=>o.after.toList.all (λe=> !ik e||Nat.ble (Nat.succ e.on) n)&&kQ r (Nat.succ n)
def cls (P:Program):Op->Nat
 | .move .. | .pick .. | .assign .. | .fieldAddr .. | .field .. | .indexAddr .. | .index .. | .unOp .. | .binOp .. | .extract .. | .makeFunc .. | .nilCheck .. | .build .. =>0
 | .slice .. =>0
 | .load .. | .lookup .. =>1
 | .alloc .. | .box .. | .buildSlice .. | .makeSlice .. | .makeMap .. =>2
 | .convert s d _=>match bU P s,bU P d with
   |some (.slice _),some .string=>1
   |some .string,some (.slice _)=>2
   |some (.slice _),some (.slice _)=>6
   |_,_=>0
 | .store .. | .mapUpdate .. =>3
 | .call c=>match c.callee with
   | .builtin .len=>(match bU P (c.argTypes.getD 0 0) with|some (.map ..)=>1|_=>0)
   | .builtin .min| .builtin .max=>0
   | .builtin .append| .builtin .copy| .builtin .clear=>3
   | .builtin _=>6
   | .invoke .. =>6
   | .value _=>3
 |_=>6
def spot:Op->Option Operand
 | .load _ a=>some a
 | .lookup _ a _ _=>some a
 | .convert _ _ x=>some x
 | .slice _ x _ _ _=>some x
 | .call c=>c.args[0]?
 |_=>none
def BI:TV->Option Nat
 | .r j| .rn j _| .rs j _ _| .p j _| .m j=>some j
 |_=>none
structure Dr where
 i:Nat
 o:Oper
 c:Nat
 m:Nat
 r:List Nat
def Y8 (P:Program) (ops:Array Oper) (ms:List Nat):List Oper->Nat->List Dr
 |[],_=>[]
 |o::r,i=>⟨i,o,cls P o.op,nth 0 ms i,f_ ops o⟩::Y8 P ops ms r (Nat.succ i)
def ready (D:Nat) (x:Dr):Bool:=Nat.beq (Nat.land x.m D) x.m
def rM (i:Nat):List Dr->List Dr
 |[]=>[]
 |x::r=>bif Nat.beq x.i i then r else x::rM i r
def D7 (D:Nat) (l:List Dr) (no:Option Dr):Option Dr:=match l with
 |[]=>no
 |x::r=>bif ready D x&&Nat.ble x.c 2 then some x else D7 D r no
def D6 (D:Nat) (l:List Dr):Option Dr:=match l with
 |[]=>none
 |x::r=>bif ready D x then some x else D6 D r
def order:Nat->Nat->List Dr->List Dr
 |0,_,_=>[]
 |n+1,D,l=>match D7 D l (D6 D l) with
  |none=>[]
  |some x=>x::order n (Nat.lor D (Nat.pow 2 x.i)) (rM x.i l)
def Bh (x y:Dr):Bool:=match x.o.dst with
 |none=>true
 |some d=>(match y.o.dst with|none=>true|some e=> !(Nat.beq d e))&&y.r.all λt=> !(Nat.beq t d)||(bit y.m x.i||bit x.m y.i)
def OC (x y:Dr):Bool:= !(bit x.m y.i)&&(!(Nat.beq x.i y.i)&&(bit y.m x.i||(Nat.ble x.c 2&&Nat.ble y.c 3)))
def OD (f:Dr->Dr->Bool):List Dr->Bool
 |[]=>true
 |x::r=>r.all (f x)&&OD f r
def A4:Nat->List Dr->Bool
 |0,_=>true
 |n+1,l=>l.any (λx=>Nat.beq x.i n)&&A4 n l
def vA (l:List Dr) (n:Nat):Bool:=A4 n l&&(l.all (λx=> !(Nat.beq x.c 2)||x.o.dst.isSome)&&OD (λx y=>Bh x y&&(Bh y x&&OC x y)) l)
def gN (c:Nat) (x:Dr) (l:List Dr):List Nat:=match l with
 |[]=>[]
 |y::r=>bif Nat.beq y.c c&& !(bit x.m y.i) then y.i::gN c x r else gN c x r
def cn:Code->List (Nat×TypeId)
 | .region _ ops _=>ops.toList.filterMap λo=>match o.dst with|some d=>some (d,o.type)|none=>none
 | .seq a b=>cn a++cn b
 | .cond _ a b=>cn a++cn b
 | .block _ b=>cn b
 | .loop b=>cn b
 | .scope b=>cn b
 | .rangeFunc _ _ a b=>cn a++cn b
 |_=>[]
def lG:Code->Bool
 | .seq a b=>lG a&&lG b
 | .cond _ a b=>lG a||lG b
 | .block id b=>lG b||0<outs id b
 | .loop _=>false
 | .exit _| .goto _| .ret| .refuse _=>false
 |_=>true
where outs (id:Nat):Code->Nat
 | .seq a b=>outs id a+outs id b
 | .cond _ a b=>outs id a+outs id b
 | .block _ b=>outs id b
 | .loop b=>outs id b
 | .scope b=>outs id b
 | .exit n=>bif Nat.beq n id then 1 else 0
 |_=>0
def kU:Code->List Nat
 | .seq a b=>kU a++kU b
 | .cond _ a b=>kU a++kU b
 | .block id b=>(kU b).filter λn=> !(Nat.beq n (2*id))
 | .loop b=>kU b
 | .exit n=>[2*n]
 | .goto l=>[2*l+1]
 |_=>[]
def iw:Code->Bool
 | .seq a b=>iw a||iw b
 | .cond _ a b=>iw a||iw b
 | .block _ b=>iw b
 | .loop b=>iw b
 | .scope b=>iw b
 | .ret=>true
 |_=>false
def bitsOf (l:List Nat):Nat:=match l with|[]=>0|t::r=>Nat.lor (Nat.pow 2 t) (bitsOf r)
def has (m t:Nat):Bool:=Nat.beq (Nat.mod (Nat.div m (Nat.pow 2 t)) 2) 1
def less (m x:Nat):Nat:=Nat.xor m (Nat.land m x)
def AE (ops:Array Oper):List Oper->Nat->Nat
 |[],m=>m
 |o::r,m=>Nat.lor (bitsOf (f_ ops o)) (match o.dst with|some d=>less (AE ops r m) (Nat.pow 2 d)|none=>AE ops r m)
def EW (id:Nat):List (Nat×Nat)->Nat
 |[]=>0
 |(n,m)::r=>bif Nat.beq n id then m else EW id r
def live (rt:Nat):Code->Nat->List (Nat×Nat)->Nat
 | .skip,m,_=>m
 | .region _ ops _,m,_=>AE ops ops.toList m
 | .seq a b,m,ex=>live rt a (live rt b m ex) ex
 | .cond c a b,m,ex=>Nat.lor (bitsOf (kI [c])) (Nat.lor (live rt a m ex) (live rt b m ex))
 | .block id b,m,ex=>live rt b m ((2*id,m)::ex)
 | .loop b,_,ex=>live rt b (live rt b 0 ex) ex
 | .exit id,_,ex=>EW (2*id) ex
 | .goto l,_,ex=>EW (2*l+1) ex
 | .ret,_,_=>rt
 | .label _,m,_=>m
 | .scope b,m,ex=>live rt b m ex
 |_,_,_=>0
def fy (t:Nat) (l:List Nat):Bool:=match l with|[]=>false|a::r=>Nat.beq a t||fy t r
def same (l:List Nat):Option Nat:=match l with
 |[]=>none
 |a::r=>bif r.all (Nat.beq a) then some a else none
def w7 (l:List Oper):Bool:=match l with|[]=>false|o::r=>o.guard.isSome||w7 r
inductive Md where
 |bU
 |v (t:Ty)
 |q (t:Ty)
 |r (k:Nat)
 |own (j:Nat)
 |un
 |pr (a b:Md)
structure Sh where
 rows:List Ty
 loc:List (Nat×Md)
 bP:List (Nat×Ty×Md)
def Md.iY:Md->List Ty
 | .v t| .q t=>[t]
 | .pr a b=>a.iY++b.iY
 |_=>[]
def NR (l:List (Nat×Md)):List Ty:=match l with|[]=>[]|x::r=>x.2.iY++NR r
def DV (l:List (Nat×Ty×Md)):List Ty:=match l with|[]=>[]|x::r=>x.2.2.iY++DV r
def Sh.iY (sh:Sh):List Ty:=NR sh.loc++(DV sh.bP++sh.rows.map .sl)
abbrev Rn:=List (Option (Nat×Option N))
def taken (j:Nat) (rn:Rn):Bool:=match rn with|[]=>false|some (i,_)::r=>Nat.beq i j||taken j r|none::r=>taken j r
def tN (k j:Nat) (n:Option N) (rn:Rn):Option Rn:=bif taken j rn||Nat.ble rn.length k then none else match nth none rn k with
 |none=>some (setAt (some (j,n)) rn k)
 |some _=>none
def proj (h:List TE):Md->TV->Rn->Option (List TV×List Nat×Rn)
 | .bU,x,rn=>bif Nat.beq x.cells 1 then some ([],[],rn) else none
 | .v t,x,rn=>bif t.pos then(match tU h x t with|some y=>some ([.v t y],ids x,rn)|none=>none) else none
 | .q t, .q σ x,rn=>(match dy σ t x with|some y=>some ([.v t y],[],rn)|none=>none)
 | .r k, .r j,rn=>(match tN k j none rn with|some rn=>some ([],[],rn)|none=>none)
 | .r k, .rn j n,rn=>(match tN k j (some n) rn with|some rn=>some ([],[],rn)|none=>none)
 | .own j, .r i,rn=>bif Nat.beq i j&&Nat.beq (nth .bu h j).st 2 then some ([],[],rn) else none
 | .un,x,rn=>bif Nat.beq x.cells 0&&x.ag then some ([],[],rn) else none
 | .pr a b,x,rn=>(match jQ x with
   | .pr x y=>(match proj h a x rn with|some (l,i,rn)=>(match proj h b y rn with|some (m,i',rn)=>some (l++m,i++i',rn)|none=>none)|none=>none)
   |_=>none)
 |_,_,_=>none
def D8 (s:TS):List (Nat×Md)->Rn->Option (List TV×List Nat×Rn)
 |[],rn=>some ([],[],rn)
 |(x,m)::r,rn=>(match proj s.hp m (nth .bU s.fr x) rn with
  |some (l,i,rn)=>(match D8 s r rn with|some (l',i',rn)=>some (l++l',i++i',rn)|none=>none)
  |none=>none)
def inj (f:Nat->TV):Md->List TV->TV×List TV
 | .v _,x::l=>(x,l)
 | .q _, .v t x::l=>(.q t x,l)
 | .r k,l=>(f k,l)
 | .own j,l=>(.r j,l)
 | .un,l=>(.un,l)
 | .pr a b,l=>match inj f a l with|(x,l)=>(match inj f b l with|(y,l)=>(.pr x y,l))
 |_,l=>(.bU,l)
def ev (t:Ty) (x:TV):Bool:=bif decide (t=cO) then(match x with| .v σ _=>decide (σ=cO)|_=>false) else fit t x
def zu (s:TS):List (Nat×Ty×Md)->Rn->Option (List TV×List Nat×Rn)
 |[],rn=>some ([],[],rn)
 |(j,t,m)::r,rn=>(match s.bP j with
  |⟨1, .box t' c⟩=>bif decide (t'=t) then(match proj s.hp m c rn with
   |some (l,i,rn)=>bif ev t (inj (λk=> .r k) m l).1 then(match zu s r rn with|some (l',i',rn)=>some (l++l',i++i',rn)|none=>none) else none
   |none=>none) else none
  |_=>none)
def wU (h:List TE):List Ty->Rn->Option (List TV)
 |[],_=>some []
 |e::r,rn=>(match wU h r (rn.drop 1) with
  |some l=>(match rn with
   |some (j,n)::_=>(match nth .bu h j with
    |⟨1, .row e' x⟩=>(match dy (.sl e') (.sl e) (match n with|some n=>av (e:=e') n x|none=>x) with|some x=>some (.v (.sl e) x::l)|none=>none)
    |_=>none)
   |_=>bif Nat.ble 1 e.cells then some (.v (.sl e) (jg e)::l) else none)
  |none=>none)
def D0:(ts:List Ty)->List TV->Option (fE.T ts)
 |[],[]=>some ()
 |[a],[.v σ x]=>dy σ a x
 |a::b::r, .v σ x::l=>(match dy σ a x,D0 (b::r) l with|some p,some q=>some (p,q)|_,_=>none)
 |_,_=>none
def eD (sh:Sh) (s:TS):Option (fE.T sh.iY):=match D8 s sh.loc (sh.rows.map λ_=>none) with
 |some (l,i,rn)=>(match zu s sh.bP rn with
  |some (m,i',rn)=>(match wU s.hp sh.rows rn,freeze s.hp (i++i') with
   |some q,some h=>bif (rn.all λx=>match x with|some (j,_)=>Nat.beq (nth .bu h j).st 1|none=>true) then D0 sh.iY (l++(m++q)) else none
   |_,_=>none)
  |none=>none)
 |none=>none
def ga:(ts:List Ty)->fE.T ts->List TV
 |[],_=>[]
 |[a],x=>[.v a x]
 |a::b::r,x=> .v a x.1::ga (b::r) x.2
def Sm (t:Nat) (v:TV) (s:TS):TS:=⟨setAt v s.fr t,s.hp⟩
def mo (f:Nat->TV):List (Nat×Md)->List TV->TS->TS×List TV
 |[],l,s=>(s,l)
 |(x,m)::r,l,s=>match inj f m l with|(v,l)=>mo f r l (Sm x v s)
def iQ (f:Nat->TV):List (Nat×Ty×Md)->List TV->TS->TS×List TV
 |[],l,s=>(s,l)
 |(j,t,m)::r,l,s=>match inj f m l with|(v,l)=>iQ f r l (s.put j ⟨1, .box t v⟩)
def jt:List Ty->List TV->TS->TS
 |[],_,s=>s
 |e::r, .v σ x::l,s=>(match dy σ (.sl e) x with|some x=>jt r l (s.new (.row e x))|none=>s)
 |_,_,s=>s
def dt (sh:Sh) (x:fE.T sh.iY) (s:TS):TS:=
 let l:=ga sh.iY x;let n:=s.hp.length;let f:Nat->TV:=λk=> .r (n+k)
 match mo f sh.loc l s with
 |(s,l)=>match iQ f sh.bP l s with
  |(s,l)=>jt sh.rows l s
def AG (h:List TE):TV->Option Ty->List Ty->Md×List Ty
 | .r j,ty,rows=>(match nth .bu h j with
   |⟨1, .row e _⟩=>(.r rows.length,rows++[e])
   |_=>(match ty with|some t=>(.v t,rows)|none=>(.bU,rows)))
 | .rn j _,ty,rows=>(match nth .bu h j with
   |⟨1, .row e _⟩=>(.r rows.length,rows++[e])
   |_=>(match ty with|some t=>(.v t,rows)|none=>(.bU,rows)))
 | .pr x y,ty,rows=>
   let(a,rows):=AG h x (match ty with|some (.pr a _)=>some a|some .gv=>some (.u 4)|_=>none) rows;let(b,rows):=AG h y (match ty with|some (.pr _ c)=>some c|some .gv=>some (.pr (.i 3) (.pr .s (.pr (.sl .gv) (.pr .b .un))))|_=>none) rows
   (.pr a b,rows)
 | .un,_,rows=>(.un,rows)
 | .v t _,_,rows=>(.v t,rows)
 | .q t _,_,rows=>(.q t,rows)
 | .nl,some t,rows=>(.v t,rows)
 | .rs _ _ _,some t,rows=>(.v t,rows)
 |_,_,rows=>(.bU,rows)
def B6 (W:List Nat):TV->Bool
 | .r j=>fy j W
 | .rn j _=>fy j W
 | .pr x y=>B6 W x||B6 W y
 |_=>false
def cH (t:Nat) (l:List (Nat×TypeId)):Option TypeId:=match l with|[]=>none|(d,y)::r=>bif Nat.beq d t then some y else cH t r
def Dk (s:TS) (wr:List (Nat×TypeId)) (W:List Nat) (lv:Nat) (dflt:Bool):List TV->Nat->List Ty->List (Nat×Md)×List Ty
 |[],_,rows=>([],rows)
 |tv::r,i,rows=>
  let y:=cH i wr
  bif (y.isSome||B6 W tv)&&has lv i then
   (let ty:=match y with|some y=>nN T.P T.gv y|none=>none
    let(m,rows):=match tv with
     | .bU=>(match dflt,ty with|true,some t=>(Md.v t,rows)|_,_=>(Md.bU,rows))
     |tv=>AG s.hp tv ty rows
    let(l,rows):=Dk s wr W lv dflt r (Nat.succ i) rows
    ((i,m)::l,rows))
  else Dk s wr W lv dflt r (Nat.succ i) rows
def xg (s:TS):List Nat->List Ty->List (Nat×Ty×Md)×List Ty
 |[],rows=>([],rows)
 |j::r,rows=>match s.bP j with
  |⟨1, .box t c⟩=>(match AG s.hp c (some t) rows with|(m,rows)=>(match xg s r rows with|(l,rows)=>((j,t,m)::l,rows)))
  |_=>xg s r rows
def clean (l:List (Nat×Md)):List (Nat×Md):=match l with|[]=>[]|(_, .bU)::r=>clean r|x::r=>x::clean r
def shape (s:TS) (wr:List (Nat×TypeId)) (W:List Nat) (lv:Nat) (dflt:Bool):Sh:=
 match xg s W [] with
 |(b,rows)=>match Dk T s wr W lv dflt s.fr 0 rows with
  |(l,rows)=>⟨rows,clean l,b⟩
def cL (W:List Nat):List TE->Nat->List TE
 |[],_=>[]
 |e::r,i=>(bif fy i W then e else match e.st with|1=>⟨2,e.b⟩|_=>e)::cL W r (Nat.succ i)
def kill (j:Nat) (h:List TE):List TE:=match(nth .bu h j).st with|1=>jo h j|_=>h
def nk:Rn->List TE->List TE
 |[],h=>h
 |some (j,_)::r,h=>nk r (kill j h)
 |none::r,h=>nk r h
def qE:List Nat->List Nat->List TE->List TE
 |[],_,h=>h
 |j::r,k,h=>bif fy j k then qE r k h else qE r k (kill j h)
def rowsOf (sh:Sh) (s:TS):Rn:=match D8 s sh.loc (sh.rows.map λ_=>none) with
 |some (_,_,rn)=>(match zu s sh.bP rn with|some (_,_,rn)=>rn|none=>[])
 |none=>[]
def kz (wr:List (Nat×TypeId)):List TV->Nat->List TV
 |[],_=>[]
 |x::l,i=>(bif (cH i wr).isSome then .bU else x)::kz wr l (Nat.succ i)
def tJ (t:Nat) (fr:List TV):List Oper->TV
 |[]=> .bU
 |o::r=>match o.dst,o.guard,o.op with
  |some d,none, .move (.tmp x)=>bif Nat.beq d t then nth .bU fr x else tJ t fr r
  |some d,none, .assign (.tmp x)=>bif Nat.beq d t then nth .bU fr x else tJ t fr r
  |_,_,_=>tJ t fr r
def tG (ops:List Oper) (fr:List TV) (lv:Nat):List (Nat×TypeId)->List (Nat×Md)
 |[]=>[]
 |(t,y)::r=>bif has lv t&& !(r.any λz=>Nat.beq z.1 t) then(match tJ t fr ops,nN T.P T.gv y with
    | .r j,_=>(t, .own j)::tG ops fr lv r
    |_,some ty=>(t, .v ty)::tG ops fr lv r
    |_,none=>tG ops fr lv r)
  else tG ops fr lv r
def qk (pos:List Nat):List (List Nat×List Nat×List Nat)->List Nat×List Nat
 |[]=>([],[])
 |(p,x)::r=>bif p==pos then x else qk pos r
def tu (pos:List Nat) (l:List (List Nat)):Bool:=l.any (·==pos)
structure KT (ρ:Type) where
 k:TS->R ρ
 ex:List (Nat×Nat×(TS->R ρ))
 rt:TV->TS->R ρ
def mH {ρ:Type} (id:Nat) (l:List (Nat×Nat×(TS->R ρ))):TS->R ρ:=match l with
 |[]=>λ_=>fail ""
 |(n,_,k)::r=>bif Nat.beq n id then k else mH id r
def EZ {ρ:Type} (id:Nat) (l:List (Nat×Nat×(TS->R ρ))):Nat:=match l with
 |[]=>0
 |(n,v,_)::r=>bif Nat.beq n id then v else EZ id r
def xK {ρ:Type} (l:List (Nat×Nat×(TS->R ρ))):List (Nat×Nat):=match l with|[]=>[]|(n,m,_)::r=>(n,m)::xK r
def sV {ρ:Type} (s:TS):List ResultVar->(TV->R ρ)->R ρ
 |[],K=>K .un
 | .tmp t::r,K=>bif k_ (nth .bU s.fr t) then sV s r λy=>K (.pr (nth .bU s.fr t) y) else fail ""
 | .cell t ty::r,K=>nJ T s ty (nth .bU s.fr t) λx=>bif k_ x then sV s r λy=>K (.pr x y) else fail ""
def Bx (h:List TE):(ts:List Ty)->TV->Option (List TV)
 |[], .un=>some []
 |a::r, .pr x y=>bif a.pos then(match tU h x a,Bx h r y with|some p,some l=>some (.v a p::l)|_,_=>none) else none
 |_,_=>none
def AB (l:List TV):TV:=match l with|[]=> .un|x::r=> .pr x (AB r)
def nF (sh:Sh) (rs:List Ty):List Ty:=DV sh.bP++(sh.rows.map .sl++rs)
def k8 (sh:Sh) (rs:List Ty) (res:TV) (s:TS):Option (fE.T (nF sh rs)):=match zu s sh.bP (sh.rows.map λ_=>none) with
 |some (m,i',rn)=>(match wU s.hp sh.rows rn,Bx s.hp rs res,freeze s.hp (i'++ids res) with
  |some q,some r,some h=>bif (rn.all λx=>match x with|some (j,_)=>Nat.beq (nth .bu h j).st 1|none=>true) then D0 (nF sh rs) (m++(q++r)) else none
  |_,_,_=>none)
 |none=>none
def kE (sh:Sh) (rs:List Ty) (x:fE.T (nF sh rs)) (s:TS):TV×TS:=
 let l:=ga (nF sh rs) x;let n:=s.hp.length;let f:Nat->TV:=λk=> .r (n+k)
 match iQ f sh.bP l s with
 |(s,l)=>(AB (l.drop sh.rows.length),jt sh.rows l s)
section run
variable {ρ:Type}
abbrev eZ (ρ:Type):Type:=Nat->TV->TS->(TV->TS->R ρ)->R ρ
def tT (f:Nat) (l:List (Nat×bB)):Option bB:=match l with|[]=>none|(n,F)::r=>bif Nat.beq n f then some F else tT f r
def Q1:TV->TV->TV
 | .pr x y,z=> .pr x (Q1 y z)
 |_,z=>z
def u_:Nat->TV->TV->Option TV
 |0,a,b=>some (Q1 b a)
 |n+1, .pr x y,b=>(match u_ n y b with|some z=>some (.pr x z)|none=>none)
 |_,_,_=>none
def tf (call:eZ ρ) (s:TS) (op:Op) (K:TV->TS->R ρ):R ρ:=match op with
 | .move x| .assign x=>bif yQ (dn s x) then fail "" else K (dn s x) s
 | .pick c a b=>zM (dn s c) (dn s a) (dn s b) λx=>K x s
 | .alloc t=>mB T s t none K
 | .box t x=>mB T s t (some (dn s x)) K
 | .build t ps=>pZ T s t ps.toList K
 | .buildSlice t n ps=>fV T s t n ps.toList K
 | .load t a=>nJ T s t (dn s a) λx=>K x s
 | .store t a x=>nM T s t (dn s a) (dn s x) λs=>K .bU s
 | .nilCheck x=>(match dn s x with| .p j w=>(match s.bP j with|⟨st,_⟩=>bif Nat.ble st 2 then K (.p j w) s else fail "")| .q t x=>K (.q t x) s| .f g x n m=>K (.f g x n m) s|_=>fail "")
 | .binOp op t x y _=>bif O0 y then FG T op t (dn s x) λx=>K x s else bif ir T t then SD T s op t (dn s x) (dn s y) λx=>K x s else FB T op t (dn s x) (dn s y) λx=>K x s
 | .unOp op _ x=>YH op (dn s x) λx=>K x s
 | .convert t d x=>kM T s t d (dn s x) K
 | .makeFunc (.func f) a b=>(match CZ s (a.toList++b.toList) with|some x=>K (.f f x a.size b.size) s|none=>fail "")
 | .makeMap t none=>nL T s t K
 | .lookup t m k false=>kN T s t (dn s m) (dn s k) λx=>K x s
 | .mapUpdate t m k (.const (.bool true))=>kO T s t (dn s m) (dn s k) λs=>K .bU s
 | .makeSlice t a b=>xq T s t (Bc a b) (dn s a) (dn s b) K
 | .slice t x lo hi none=>th T s t (dn s x) (lo.map (dn s)) (hi.map (dn s)) λx=>K x s
 | .slice t x none (some hi) (some mx)=>zJ T t (dn s x) (dn s hi) (dn s mx) λx=>K x s
 | .fieldAddr t x k=>iW T s t k (dn s x) λx=>K x s
 | .field t x k=>td T t k (dn s x) λx=>K x s
 | .indexAddr t x i=>iX T s t (dn s x) (dn s i) λx=>K x s
 | .index t x i=>te T t (dn s x) (dn s i) λx=>K x s
 | .extract x i=>(match dn s x with| .tp x=>(match C0 i x with| .bU=>fail ""|x=>K x s)|_=>fail "")
 | .panic _=>nev
 | .call c=>(match c.callee with
   | .builtin b=>(match b,c.argTypes.toList,c.args.toList with
     | .len,t::_,[x]=>Bp T s t (dn s x) λn=>K (.v (.i 3) (Cv n)) s
     | .append,[t,u],[x,y]=>ov T s t u (dn s x) (dn s y) K
     | .copy,t::_,[x,y]=>zK T s t (dn s x) (dn s y) K
     | .clear,t::_,[x]=>ta T s t (dn s x) K
     | .min,_,[x,y]=>mC false (dn s x) (dn s y) λx=>K x s
     | .max,_,[x,y]=>mC true (dn s x) (dn s y) λx=>K x s
     |_,_,_=>fail "")
   | .value (.func f)=>(match CZ s c.args.toList with|some a=>call f a s K|none=>fail "")
   | .value x=>(match dn s x,CZ s c.args.toList with
     | .f f u n _,some a=>(match u_ n u a with|some a=>call f a s K|none=>fail "")
     |_,_=>fail "")
   | .invoke .. =>fail "")
 |_=>fail ""
def assume (t:Nat) (b:Bool) (s:TS):TS:=Sm t (.v .b (Jq b)) s
def rH (ops:Array Oper) (o:Oper) (s:TS) (go:TS->(TV->TS->R ρ)->R ρ) (put:TV->TS->Option TS) (K:TS->R ρ):R ρ:=
 let fin:TV->TS->R ρ:=λx s=>match put x s with|some s=>K s|none=>fail ""
 match o.guard with
 |none=>go s fin
 |some (j,want)=>match(ops[j]?).bind (·.dst) with
  |none=>fail ""
  |some t=>match nth .bU s.fr t with
   | .v .b c=>af c
     (λ_=>let s:=assume t true s;bif want then go s fin else fin .nI s)
     (λ_=>let s:=assume t false s;bif want then fin .nI s else go s fin)
   | .nI=>fin .nI s
   |_=>fail ""
def vU (call:eZ ρ) (ops:Array Oper):List Oper->TS->(TS->R ρ)->R ρ
 |[],s,K=>K s
 |o::r,s,K=>rH ops o s (λs F=>tf T call s o.op F) (OO T o.dst o.type) λs=>vU call ops r s K
def fJ (x:Dr) (s s':TS):List (Nat×Nat):=match x.c with
 |1=>(match spot x.o.op with|some a=>(match BI (dn s a) with|some j=>[(x.i,j)]|none=>[])|none=>[])
 |2=>(match x.o.dst with|some d=>(match BI (nth .bU s'.fr d) with|some j=>[(x.i,j)]|none=>[])|none=>[])
 |_=>[]
def qJ (i:Nat) (l:List (Nat×Nat)):Option Nat:=match l with|[]=>none|(a,j)::r=>bif Nat.beq a i then some j else qJ i r
def gL (md:List (Nat×Nat)) (l:List Nat):List Nat:=match l with|[]=>[]|i::r=>(match qJ i md with|some j=>j::gL md r|none=>gL md r)
def yH:List Nat->List TE->Option (List TE)
 |[],h=>some h
 |j::r,h=>match(nth .bu h j).st with|1=>yH r (setAt .bu h j)|_=>none
def gW:List Nat->List TE->List TE
 |[],h=>h
 |j::r,h=>gW r (match(nth .bu h j).st with|1=>setAt ⟨2,(nth .bu h j).b⟩ h j|_=>h)
def restore:List Nat->List TE->List TE->List TE
 |[],_,h=>h
 |j::r,a,h=>restore r a (bif Nat.ble (Nat.succ j) a.length then setAt (nth .bu a j) h j else h)
def jA:TV->List Nat
 | .r j=>[j]
 | .rn j _=>[j]
 | .rs j _ _=>[j]
 | .p j _=>[j]
 | .sa j _ _=>[j]
 | .m j=>[j]
 | .pr x y=>jA x++jA y
 | .tp x=>jA x
 | .f _ x _ _=>jA x
 |_=>[]
def qQ (h:List TE) (l:List Nat):Bool:=match l with|[]=>true|j::r=> !(Nat.beq (nth .bu h j).st 7)&&qQ h r
def CH (s:TS) (h:List TE) (l:List Operand):Bool:=match l with|[]=>true|x::r=>qQ h (jA (dn s x))&&CH s h r
def ok0 (s:TS) (op:Op):Bool:=match op with
 | .build t ps=>ir T t||(jr s ps.toList).isEmpty
 |_=>true
def TC (h:List TE):TE->Bool
 |⟨st, .box _ c⟩=> !(Nat.ble st 2)||qQ h (jA c)
 |⟨st, .any c⟩=> !(Nat.ble st 2)||qQ h (jA c)
 |_=>true
def yV (h:List TE) (l:List TE):Bool:=match l with|[]=>true|e::r=>TC h e&&yV h r
def kX (call:eZ ρ) (ops:Array Oper):List Dr->List Dr->List (Nat×Nat)->TS->(TS->R ρ)->R ρ
 |[],_,_,s,K=>K s
 |x::r,done,md,s,K=>rH ops x.o s (λs F=>bif Nat.ble x.c 2 then(bif ok0 T s x.o.op then tf T call s x.o.op F else fail "") else
    (match yH (gL md (gN 2 x done)) s.hp with
     |some h=>bif CH s h x.o.op.operands.toList&&yV h h then tf T call ⟨s.fr,gW (gL md (gN 1 x done)) h⟩ x.o.op λv s'=>F v ⟨s'.fr,restore (gL md (gN 2 x done)++gL md (gN 1 x done)) s.hp s'.hp⟩ else fail ""
     |none=>fail "")) (oQ x.o.dst)
   λs'=>kX call ops r (x::done) (fJ x s s'++md) s' K
def l7:List Oper->TS->Option TS
 |[],s=>some s
 |o::r,s=>match o.dst with
  |some d=>(match nth .bU s.fr d with
   | .nl=>(match OO T (some d) o.type .nl s with|some s=>l7 r s|none=>none)
   |_=>l7 r s)
  |none=>l7 r s
end run
structure Go where
 rl:List ResultVar
 rs:List Ty
 top:Bool
 lr:Nat
def ends {ρ:Type} (E:Go) (K:KT ρ) (s:TS):R ρ:=sV T s E.rl λx=>K.rt x s
def small (c:Code):Bool:=match c with| .region _ ops d=>Nat.ble ops.size 4&& !d| .skip=>true|_=>false
def one (l:List Nat):Option (Option Nat):=match l with
 |[]=>some none
 |a::r=>bif r.all (Nat.beq a) then some (some a) else none
def c_ (wr:List (Nat×TypeId)) (W:List Nat) (bP:List (Nat×Ty×Md)) (rn:Rn) (fr:List TV) (h:List TE):TS:=⟨kz wr fr 0,nk rn (qE W (bP.map (·.1)) h)⟩
def cA (bP:List (Nat×Ty×Md)) (rn:Rn):List Nat:=bP.map (·.1)++rn.filterMap λx=>x.map (·.1)
def BH (E:Go) (sh:Sh):Sh:=bif E.top then⟨[],[],[]⟩ else⟨sh.rows,[],sh.bP⟩
abbrev Kl (E:Go) (sh shx:Sh):Type:=LT sh.iY shx.iY (nF (BH E sh) E.rs)
def Ot (nm:String) (E:Go) (sh shx:Sh) (s:TS):R (Kl E sh shx):=match eD sh s with|some x=>bh sh.iY shx.iY (nF (BH E sh) E.rs) x|none=>fail nm
def SS (nm:String) (E:Go) (sh shx:Sh) (s:TS):R (Kl E sh shx):=match eD shx s with|some x=>lex sh.iY shx.iY (nF (BH E sh) E.rs) x|none=>fail nm
def Ur (nm:String) (E:Go) (sh shx:Sh) (res:TV) (s:TS):R (Kl E sh shx):=match k8 (BH E sh) E.rs res s with|some x=>bT sh.iY shx.iY (nF (BH E sh) E.rs) x|none=>fail nm
def Ox {ρ:Type} (e:Option Nat) (K:KT ρ) (shx:Sh) (base:TS) (rnx:Rn) (x:fE.T shx.iY):R ρ:=match e with
 |some n=>mH n K.ex (dt shx x ⟨base.fr,nk rnx base.hp⟩)
 |none=>nev
def Fh {ρ:Type} (b:Bool) (E:Go) (K:KT ρ) (sh:Sh) (base:TS) (x:fE.T (nF (BH E sh) E.rs)):R ρ:=bif b then(match kE (BH E sh) E.rs x (bif E.top then⟨base.fr,qE (sh.bP.map (·.1)) [] base.hp⟩ else base) with|(r,s)=>K.rt r s) else nev
def Q2 (c:Operand) (t:Bool) (s:TS):TS:=match c with| .tmp i=>assume i t s|_=>s
abbrev YR:Type 1:={ρ:Type}->Code->Go->List Nat->Bool->Nat->TS->KT ρ->R ρ
def xd:YR:=λ_ _ _ _ _ _ _=>fail ""
def runT (calls:{ρ:Type}->List Nat->eZ ρ) (sc:YR):Code->{ρ:Type}->Go->List Nat->Bool->Nat->TS->KT ρ->R ρ
 | .skip,_,_,_,_,_,s,K=>K.k s
 | .label _,_,_,_,_,_,s,K=>K.k s
 | .region _ ops d,_,E,pos,tl,lv,s,K=>
   let l:=ops.toList;let dr:=let n:=ops.size;order n 0 (Y8 T.P ops (pN l [] 0).reverse l 0);let go:{ρ:Type}->TS->(TS->R ρ)->R ρ:=λs F=>bif d then(bif kQ l 0&&vA dr ops.size then kX T (calls pos) ops dr [] [] s λs=>(match l7 T l s with|some s=>F s|none=>fail "") else fail "") else vU T (calls pos) ops l s F
   bif w7 l&& !(tu pos T.dup) then
    (let wr:=cn (.region 0 ops d)
     let sh:Sh:=⟨[],tG T l s.fr lv wr,[]⟩
     yT pos sh.iY (go ⟨s.fr,cL [] s.hp 0⟩ λs=>match eD sh s with|some x=>ret x|none=>fail "") λx=>K.k (dt sh x ⟨kz wr s.fr 0,s.hp⟩))
   else go s K.k
 | .seq a b,_,E,pos,tl,lv,s,K=>runT calls sc a E (0::pos) (tl&&small b) (live E.lr b lv (xK K.ex)) s ⟨λs=>runT calls sc b E (1::pos) tl lv s K,K.ex,K.rt⟩
 | .cond c a b,ρ,E,pos,tl,lv,s,K=>match dn s c with
   | .v .b x=>
     bif !(lG a&&lG b)||tl||tu pos T.dup then
      af x (λ_=>runT calls sc a E (0::pos) tl lv (Q2 c true s) K) (λ_=>runT calls sc b E (1::pos) tl lv (Q2 c false s) K)
     else
      let wr:=cn a++cn b;let(W,Z):=qk pos T.vn
      match freeze s.hp Z,one (kU a++kU b) with
      |some h,some e=>
       let s:TS:=⟨s.fr,h⟩;let sh:=shape T s wr W lv true;let rn:=rowsOf sh s;let base:=c_ wr W sh.bP rn s.fr h;let s1:TS:=⟨s.fr,cL (W++cA sh.bP rn) h 0⟩
       bif iw a||iw b||e.isSome then
        let shx:=shape T s wr W (EZ (e.getD 0) K.ex) true;let KK:KT (Kl E sh shx):=⟨Ot "" E sh shx,[(e.getD 0,EZ (e.getD 0) K.ex,SS "" E sh shx)],Ur "" E sh shx⟩
        D1 pos sh.iY shx.iY (nF (BH E sh) E.rs) (af x (λ_=>runT calls sc a E (0::pos) true lv (Q2 c true s1) KK) (λ_=>runT calls sc b E (1::pos) true lv (Q2 c false s1) KK))
         (λx=>K.k (dt sh x base)) (Ox e K shx base (rowsOf shx s)) (Fh (iw a||iw b) E K sh base)
       else
        let KK:KT (fE.T sh.iY):=⟨λs=>match eD sh s with|some x=>ret x|none=>fail "",[],λ_ _=>fail ""⟩
        yT pos sh.iY (af x (λ_=>runT calls sc a E (0::pos) true lv (Q2 c true s1) KK) (λ_=>runT calls sc b E (1::pos) true lv (Q2 c false s1) KK)) λx=>K.k (dt sh x base)
      |_,_=>fail ""
   | .nz n=>N' n (runT calls sc a E (0::pos) tl lv s K) (runT calls sc b E (1::pos) tl lv s K)
   |_=>fail ""
 | .block id b,ρ,E,pos,tl,lv,s,K=>
   let ways:=lG.outs id b+(bif lG b then 1 else 0)
   bif Nat.ble ways 1||tl||tu pos T.dup then
    runT calls sc b E (0::pos) tl lv s ⟨K.k,(2*id,lv,K.k)::K.ex,K.rt⟩
   else
    let wr:=cn b;let(W,Z):=qk pos T.vn
    match freeze s.hp Z,one ((kU b).filter λn=> !(Nat.beq n (2*id))) with
    |some h,some e=>
     let s:TS:=⟨s.fr,h⟩;let sh:=shape T s wr W lv true;let rn:=rowsOf sh s;let base:=c_ wr W sh.bP rn s.fr h;let s1:TS:=⟨s.fr,cL (W++cA sh.bP rn) h 0⟩
     bif iw b||e.isSome then
      let shx:=shape T s wr W (EZ (e.getD 0) K.ex) true;let KK:KT (Kl E sh shx):=⟨Ot "" E sh shx,[(2*id,lv,Ot "" E sh shx),(e.getD 0,EZ (e.getD 0) K.ex,SS "" E sh shx)],Ur "" E sh shx⟩
      D1 pos sh.iY shx.iY (nF (BH E sh) E.rs) (runT calls sc b E (0::pos) true lv s1 KK)
       (λx=>K.k (dt sh x base)) (Ox e K shx base (rowsOf shx s)) (Fh (iw b) E K sh base)
     else
      let ok:TS->R (fE.T sh.iY):=λs=>match eD sh s with|some x=>ret x|none=>fail ""
      let KK:KT (fE.T sh.iY):=⟨ok,[(2*id,lv,ok)],λ_ _=>fail ""⟩
      yT pos sh.iY (runT calls sc b E (0::pos) true lv s1 KK) λx=>K.k (dt sh x base)
    |_,_=>fail ""
 | .loop b,ρ,E,pos,_,_,s,K=>
   bif tu [999] T.dup then
    Nat.rec (motive:=λ_=>TS->R ρ) (λ_=>fail "") (λ_ go s=>runT calls sc b E (0::pos) true (live E.lr (.loop b) 0 (xK K.ex)) s ⟨go,K.ex,K.rt⟩) 2 s
   else
   let wr:=cn b;let(W,Z):=qk pos T.vn;let lv':=live E.lr (.loop b) 0 (xK K.ex)
   match freeze s.hp Z,one (kU b) with
   |some h,some e=>
    let s:TS:=⟨s.fr,h⟩;let sh:=shape T s wr W lv' false;let rn:=rowsOf sh s;let shx:=shape T s wr W (EZ (e.getD 0) K.ex) true;let base:=c_ wr W sh.bP rn s.fr h;let tC:TS:=⟨base.fr,cL (sh.bP.map (·.1)) base.hp 0⟩
    match eD sh ⟨s.fr,cL (W++cA sh.bP rn) h 0⟩ with
    |some x0=>
     CL pos sh.iY shx.iY (nF (BH E sh) E.rs)
      (λx=>runT calls sc b E (0::pos) true lv' (dt sh x tC) ⟨Ot "" E sh shx,[(e.getD 0,EZ (e.getD 0) K.ex,SS "" E sh shx)],Ur "" E sh shx⟩)
      x0 (Ox e K shx base (rowsOf shx s)) (Fh (iw b) E K sh base)
    |none=>fail ""
   |_,_=>fail ""
 | .exit id,_,_,_,_,_,s,K=>mH (2*id) K.ex s
 | .goto l,_,_,_,_,_,s,K=>mH (2*l+1) K.ex s
 | .ret,_,E,_,_,_,s,K=>ends T E K s
 | .scope b,_,E,pos,tl,lv,s,K=>sc b E pos tl lv s K
 | .rangeFunc ..,_,_,_,_,_,_,_=>fail ""
 | .refuse _,_,_,_,_,_,_,_=>fail ""
def mr:Code->List Nat
 | .seq a b=>mr a++mr b
 | .label l=>[l]
 |_=>[]
def pV (calls:{ρ:Type}->List Nat->eZ ρ):YR:=λ{ρ} b E pos _ lv s K=>
 match mr b with
 |[l]=>(match findLabel b l with
  |some rest=>
   let lvl:=live E.lr rest lv ((2*l+1,live E.lr rest lv ((2*l+1,0)::xK K.ex))::xK K.ex);let wr:=cn b
   runT T calls xd b E (0::pos) true lv s ⟨K.k,(2*l+1,lvl,λs=>
    match qk (1::pos) T.vn with
    |(W,Z)=>(match freeze s.hp Z with
     |some h=>
      let s:TS:=⟨s.fr,h⟩;let sh:=shape T s wr W lvl true;let rn:=rowsOf sh s;let shx:=shape T s wr W lv true;let base:=c_ wr W sh.bP rn s.fr h;let tC:TS:=⟨base.fr,cL (sh.bP.map (·.1)) base.hp 0⟩
      (match eD sh ⟨s.fr,cL (W++cA sh.bP rn) h 0⟩ with
      |some x0=>CL (1::pos) sh.iY shx.iY (nF (BH E sh) E.rs)
        (λx=>runT T calls xd rest E (2::pos) true lvl (dt sh x tC) ⟨SS "" E sh shx,[(2*l+1,lvl,Ot "" E sh shx)],Ur "" E sh shx⟩)
        x0 (λx=>K.k (dt shx x ⟨base.fr,nk (rowsOf shx s) base.hp⟩)) (Fh (iw rest) E K sh base)
      |none=>fail "")
     |none=>fail ""))::K.ex,K.rt⟩
  |none=>fail "")
 |_=>fail ""
def jU:TV->List TV
 | .pr x y=>x::jU y
 |_=>[]
def wN (n:Nat) (l:List TV):List TV:=match n with|0=>[]|n+1=>(match l with|[]=> .bU::wN n []|x::r=>x::wN n r)
def vT (calls:{ρ:Type}->List Nat->eZ ρ) {ρ:Type} (f:Nat) (rs:List Ty) (top:Bool) (pos:List Nat) (a:TV) (h:List TE) (K:TV->TS->R ρ):R ρ:=
 match xX T.P.funcs.toList f with
 |none=>fail ""
 |some fn=>match fn.body with
  |none=>fail ""
  |some c=>bif Nat.beq rs.length fn.results.size then
   let lv:=bitsOf (fn.results.toList.map λx=>match x with| .tmp t=>t| .cell t _=>t);let E:Go:=⟨fn.results.toList,rs,top,lv⟩;let KK:KT ρ:=⟨λ_=>fail "",[],K⟩
   runT T calls (pV T calls) c E pos true lv ⟨wN fn.ntmps (jU a),h⟩ ⟨λs=>ends T E KK s,[],K⟩ else fail ""
def Fm (o:Oper):Option Operand:=match o.op,o.guard,o.dst with
 | .defer c,none,none=>(match c.callee with| .value x=>(match c.args.toList with|[]=>some x|_=>none)|_=>none)
 |_,_,_=>none
def Qc (calls:{ρ:Type}->List Nat->eZ ρ) {ρ:Type} (f:Nat) (rs:List Ty) (a:TV) (h:List TE) (K:TV->TS->R ρ):R ρ:=
 match xX T.P.funcs.toList f with
 |none=>fail ""
 |some fn=>bif Nat.beq rs.length fn.results.size then(match fn.body with
  |some (.seq c0 (.seq (.region _ ops false) c1))=>(match ops.toList with
   |[o1,o2]=>(match Fm o2 with
    |some x=>
     let lv:=bitsOf (fn.results.toList.map λx=>match x with| .tmp t=>t| .cell t _=>t);let E:Go:=⟨[],[],false,lv⟩
     runT T calls (pV T calls) c0 E [0] false (live lv c1 lv []) ⟨wN fn.ntmps (jU a),h⟩ ⟨λs1=>vU T (calls [1]) ops [o1] s1 λs2=>
      match dn s2 x with
      | .f g cap 0 _=>bif fy g T.inl then runT T calls (pV T calls) c1 E [2] false lv s2 ⟨λ_=>fail "",[],λ_ s3=>
         vT T calls g [] false [g+1000] cap s3.hp λ_ s4=>sV T ⟨kz (cn c1) s2.fr 0,s4.hp⟩ fn.results.toList λx=>K x ⟨kz (cn c1) s2.fr 0,s4.hp⟩⟩ else fail ""
      |_=>fail "",[],λ_ _=>fail ""⟩
    |none=>fail "")
   |_=>fail "")
  |_=>fail "") else fail ""
def Fp (P:Program) (gv:Nat):List TypeId->Option (List Ty)
 |[]=>some []
 |t::r=>match nN P gv t,Fp P gv r with|some x,some l=>some (x::l)|_,_=>none
def dV:Nat->{ρ:Type}->List Nat->eZ ρ
 |0,_,_=>λ_ _ _ _=>fail ""
 |n+1,_,pos=>λf a s K=>match tT f T.fn with
  |some F=>HS s F a K
  |none=>bif fy f T.inl then(match(match xX T.P.funcs.toList f with|some fn=>Fp T.P T.gv fn.resultTypes.toList|none=>none) with
    |some rs=>vT T (dV n) f rs false ((f+1000)::pos) a s.hp λx s'=>K (mL rs x) ⟨s.fr,s'.hp⟩
    |none=>fail "") else fail ""
def Fi (h:List TE):Ty->TV->List Nat->Option (List Nat)
 | .sl e,x,l=>(match x with
   | .r j=>(match nth .bu h j with|⟨1, .row f _⟩=>bif f.flat&&(decide (f=e)&& !(fy j l)) then some (j::l) else none|_=>none)
   |_=>none)
 | .pr a c,x,l=>bif (Ty.pr a c).flat then some l else(match x with| .pr x y=>(match Fi h a x l with|some l=>Fi h c y l|none=>none)|_=>none)
 |t,_,l=>bif t.flat then some l else none
def nD (h:List TE):List Ty->TV->List Nat->Bool
 |[],_,_=>true
 |e::r, .pr x y,l=>(match Fi h e x l with|some l=>nD h r y l|none=>false)
 |_,_,_=>false
def tfn (f:Nat) (a r:List Ty) (fresh:Bool):bB:=⟨a,r,fresh,λx=>
 vT T (dV T 6) f r true [] (unpack a x) [] λres s=>
  bif !fresh||nD s.hp r res [] then(match lA s.hp r res with|some y=>ret y|none=>fail "") else fail ""⟩
def dfn (f:Nat) (a r:List Ty) (fresh:Bool):bB:=⟨a,r,fresh,λx=>
 Qc T (dV T 6) f r (unpack a x) [] λres s=>
  bif !fresh||nD s.hp r res [] then(match lA s.hp r res with|some y=>ret y|none=>fail "") else fail ""⟩
end code
end
noncomputable section
def cv (v:Value) (i:Nat):Value:=match v with| .agg cs=>cs.getD i undef|v=>v
def fw (cs:Array Value) (i:Nat):Value:=cs.getD i undef
def bZ (s:ByteArray):List Nat:=s.data.toList.map UInt8.toNat
def ix (k:Nat) (x:Int):Prop:= -(fo k:Int)<=2*x/\2*x<fo k
def bQ {α:Type} (P:α->(Nat->Value)->Nat->Prop) (z:Nat):List α->(Nat->Value)->Nat->Prop
 |[],_,_=>True
 |x::r,c,o=>P x c o/\bQ P z r c (o+z)
def dU:Nat:=9223372036854775808
def Zs (v:Value):Prop:=∃a c,v= .slice a 0 c/\(a=none->c=0)
def vj (F:Nat->Prop) (w:World) (z n:Nat) (P:(Nat->Value)->Nat->Prop) (v:Value):Prop:=
 n<dU/\1<=z/\((n=0/\Zs v)\/
  ∃b o c cs T fz,v= .slice (some ⟨b,o,none⟩) n c/\n<=c/\¬F b/\w.heap[b]? =some (.cells cs T fz)/\o+n*z<=cs.size/\P (fw cs) o)
mutual
def oF (F:Nat->Prop) (w:World):GV->(Nat->Value)->Nat->Prop
 | .mk k i t l b,c,o=>(c o= .int .u8 k/\k<256)/\(c (o+1)= .int .i64 i/\ix 3 i)/\(∃s,c (o+2)= .string s/\t=bZ s/\t.length<dU)/\
    vj F w 5 (Hj l) (oX F w l) (c (o+3))/\c (o+4)= .bool b
def oX (F:Nat->Prop) (w:World):List GV->(Nat->Value)->Nat->Prop
 |[],_,_=>True
 |x::r,c,o=>oF F w x c o/\oX F w r c (o+5)
def Hj:List GV->Nat
 |[]=>0
 |_::r=>Hj r+1
end
def bI (F:Nat->Prop) (w:World):(t:Ty)->t.T->(Nat->Value)->Nat->Prop
 | .i k,x,c,o=>c o= .int (kd k) x/\k<4/\ix k x
 | .u k,x,c,o=>c o= .int (kd k) ((x:Nat):Int)/\4<=k/\k<8/\x<fo k
 | .b,x,c,o=>c o= .bool x
 | .s,x,c,o=>∃s,c o= .string s/\x=bZ s/\List.length x<dU
 | .sl e,l,c,o=>vj F w e.cells (List.length l) (bQ (bI F w e) e.cells l) (c o)
 | .pr a b,x,c,o=>bI F w a x.1 c o/\bI F w b x.2 c (o+a.cells)
 | .un,_,_,_=>True
 | .ar n e,l,c,o=>List.length l=n/\bQ (bI F w e) e.cells l c o
 | .gv,x,c,o=>oF F w x c o
theorem CG:∀(l:List GV),Hj l=l.length
 |[]=>rfl
 |_::r=>congrArg (·+1) (CG r)
theorem De (F:Nat->Prop) (w:World):∀(l:List GV),oX F w l=bQ (oF F w) 5 l
 |[]=>rfl
 |x::r=>by
  funext c o;show(oF F w x c o/\oX F w r c (o+5))=_;rw[De F w r];rfl
theorem uT (F:Nat->Prop) (w:World) (x:GV) (c:Nat->Value) (o:Nat):oF F w x c o↔bI F w lH (vZ x) c o:=by
 obtain⟨k,i,t,l,b⟩:=x;show((c o= .int .u8 k/\k<256)/\(c (o+1)= .int .i64 i/\ix 3 i)/\(∃s,c (o+2)= .string s/\t=bZ s/\t.length<dU)/\vj F w 5 (Hj l) (oX F w l) (c (o+3))/\c (o+4)= .bool b)↔
  ((c o= .int .u8 k/\4<=4/\4<8/\k<fo 4)/\(c (o+1)= .int .i64 i/\3<4/\ix 3 i)/\(∃s,c (o+1+1)= .string s/\t=bZ s/\t.length<dU)/\
    vj F w 5 l.length (bQ (oF F w) 5 l) (c (o+1+1+1))/\c (o+1+1+1+1)= .bool b/\True)
 rw[CG,De];constructor
 ·rintro⟨⟨h1,h2⟩,⟨h3,h4⟩,h5,h6,h7⟩;exact⟨⟨h1,by decide,by decide,h2⟩,⟨h3,by decide,h4⟩,h5,h6,h7,trivial⟩
 ·rintro⟨⟨h1,-,-,h2⟩,⟨h3,-,h4⟩,h5,h6,h7,-⟩;exact⟨⟨h1,h2⟩,⟨h3,h4⟩,h5,h6,h7⟩
theorem bQ.dP {α:Type} {P:α->(Nat->Value)->Nat->Prop} {z:Nat} (hP:∀x c c' o o',(∀j,j<z->c' (o'+j)=c (o+j))->P x c o->P x c' o'):∀(l:List α) {c c':Nat->Value} {o o':Nat},
 (∀j,j<l.length*z->c' (o'+j)=c (o+j))->bQ P z l c o->bQ P z l c' o'
 |[],_,_,_,_,_,_=>trivial
 |x::r,c,c',o,o',h,⟨h1,h2⟩=>by
  have hl:(x::r).length*z=r.length*z+z:=by rw[adB,aei,aeo]
  refine⟨hP x c c' o o' (λj hj=>h j ade) h1,bQ.dP hP r (λj hj=> ?_) h2⟩;have:=h (z+j) ade;rw[adV,adV];exact this
theorem oF.dP {F:Nat->Prop} {w:World} (x:GV) {c c':Nat->Value} {o o':Nat} (h:∀j,j<5->c' (o'+j)=c (o+j)) (H:oF F w x c o):oF F w x c' o':=by
 obtain⟨k,i,t,l,b⟩:=x;obtain⟨⟨h1,h2⟩,⟨h3,h4⟩,⟨s,h5,h6⟩,h7,h8⟩:=H;have e0:c' o'=c o:=h 0 ade;exact⟨⟨e0.trans h1,h2⟩,⟨(h 1 ade).trans h3,h4⟩,⟨s,(h 2 ade).trans h5,h6⟩,by rw[h 3 ade];exact h7,(h 4 ade).trans h8⟩
theorem bI.dP {F:Nat->Prop} {w:World}:∀(t:Ty) (x:t.T) {c c':Nat->Value} {o o':Nat},(∀j,j<t.cells->c' (o'+j)=c (o+j))->bI F w t x c o->bI F w t x c' o'
 | .i k,x,c,c',o,o',h,⟨h1,h2⟩=>⟨(h 0 aek).trans h1,h2⟩
 | .u k,x,c,c',o,o',h,⟨h1,h2⟩=>⟨(h 0 aek).trans h1,h2⟩
 | .b,x,c,c',o,o',h,h1=>(h 0 aek).trans h1
 | .s,x,c,c',o,o',h,⟨s,h1,h2⟩=>⟨s,(h 0 aek).trans h1,h2⟩
 | .sl e,l,c,c',o,o',h,h1=>by
   have e0:c' o'=c o:=h 0 aek;show vj F w e.cells (List.length l) (bQ (bI F w e) e.cells l) (c' o');rw[e0];exact h1
 | .pr a b,x,c,c',o,o',h,⟨h1,h2⟩=>⟨bI.dP a x.1 (λj hj=>h j (by show j<a.cells+b.cells;omega)) h1,
    bI.dP b x.2 (λj hj=>by have:=h (a.cells+j) (by show a.cells+j<a.cells+b.cells;omega)
                           rw[adV,adV];exact this) h2⟩
 | .un,_,_,_,_,_,_,_=>trivial
 | .ar n e,l,c,c',o,o',h,⟨h1,h2⟩=>⟨h1,bQ.dP (λx _ _ _ _=>bI.dP e x) l (λj hj=>h j (by show j<n*e.cells;rw[<-h1];exact hj)) h2⟩
 | .gv,x,c,c',o,o',h,h1=>oF.dP x h h1
def kA (F:Nat->Prop) (w:World) (F':Nat->Prop) (w':World):Prop:=∀b cs T fz,¬F b->w.heap[b]? =some (.cells cs T fz)->¬F' b/\∃fz',w'.heap[b]? =some (.cells cs T fz')
theorem vj.mono {F F':Nat->Prop} {w w':World} (K:kA F w F' w') {z n:Nat} {P P':(Nat->Value)->Nat->Prop} (hP:∀c o,P c o->P' c o) {a:Value}:vj F w z n P a->vj F' w' z n P' a:=by
 rintro⟨h1,h2,h|⟨b,o,c,cs,T,fz,g1,g2,g3,g4,g5,g6⟩⟩
 ·exact⟨h1,h2, .inl h⟩
 ·obtain⟨k1,fz',k2⟩:=K b cs T fz g3 g4;exact⟨h1,h2, .inr ⟨b,o,c,cs,T,fz',g1,g2,k1,k2,g5,hP _ _ g6⟩⟩
theorem bQ.mono {α:Type} {P P':α->(Nat->Value)->Nat->Prop} {z:Nat} (hP:∀x c o,P x c o->P' x c o):∀(l:List α) (c:Nat->Value) (o:Nat),bQ P z l c o->bQ P' z l c o
 |[],_,_,_=>trivial
 |x::r,c,o,⟨h1,h2⟩=>⟨hP x c o h1,bQ.mono hP r c _ h2⟩
mutual
theorem oF.mono {F F':Nat->Prop} {w w':World} (K:kA F w F' w'):∀(x:GV) (c:Nat->Value) (o:Nat),oF F w x c o->oF F' w' x c o
 | .mk k i t l b,c,o,⟨h1,h3,h5,h7,h8⟩=>⟨h1,h3,h5,vj.mono K (oX.mono K l) h7,h8⟩
theorem oX.mono {F F':Nat->Prop} {w w':World} (K:kA F w F' w'):∀(l:List GV) (c:Nat->Value) (o:Nat),oX F w l c o->oX F' w' l c o
 |[],_,_,_=>trivial
 |x::r,c,o,⟨h1,h2⟩=>⟨oF.mono K x c o h1,oX.mono K r c _ h2⟩
end
theorem bI.mono {F F':Nat->Prop} {w w':World} (K:kA F w F' w'):∀(t:Ty) (x:t.T) (c:Nat->Value) (o:Nat),bI F w t x c o->bI F' w' t x c o
 | .i _,_,_,_,h| .u _,_,_,_,h| .b,_,_,_,h| .s,_,_,_,h| .un,_,_,_,h=>h
 | .sl e,l,c,o,h=>vj.mono K (bQ.mono (bI.mono K e) l) h
 | .pr a b,x,c,o,⟨h1,h2⟩=>⟨bI.mono K a _ _ _ h1,bI.mono K b _ _ _ h2⟩
 | .ar n e,l,c,o,⟨h1,h2⟩=>⟨h1,bQ.mono (bI.mono K e) l _ _ h2⟩
 | .gv,x,c,o,h=>oF.mono K x c o h
theorem bQ.nth {α:Type} {P:α->(Nat->Value)->Nat->Prop} {z:Nat}:∀{l:List α} {c:Nat->Value} {o:Nat} {i:Nat} {x:α},bQ P z l c o->l[i]? =some x->P x c (o+i*z)
 |[],_,_,_,_,_,h=>by simp at h
 |y::r,c,o,0,x,⟨h1,_⟩,h=>by
  obtain rfl:y=x:=by simpa using h
  rw[aen];exact h1
 |y::r,c,o,i+1,x,⟨_,h2⟩,h=>by
  have:=bQ.nth (i:=i) h2 (by simpa using h);rw[aei,aeo,Nat.add_comm (i*z),<-adV];exact this
theorem bQ.of {α:Type} {P:α->(Nat->Value)->Nat->Prop} {z:Nat}:∀{l:List α} {c:Nat->Value} {o:Nat},(∀i x,l[i]? =some x->P x c (o+i*z))->bQ P z l c o
 |[],_,_,_=>trivial
 |y::r,c,o,h=>by
  refine⟨by have:=h 0 y rfl;rwa [aen] at this,bQ.of λi x hx=> ?_⟩;have:=h (i+1) x (by simpa using hx)
  rwa [aei,aeo,Nat.add_comm (i*z),<-adV] at this
theorem bQ.iff {α:Type} {P:α->(Nat->Value)->Nat->Prop} {z:Nat} {l:List α} {c:Nat->Value} {o:Nat}:bQ P z l c o↔∀i x,l[i]? =some x->P x c (o+i*z):=⟨λh _ _=>h.nth,bQ.of⟩
end
noncomputable section
def Zn (v:Value):Prop:=∃a,v= .slice a 0 0
theorem Zn.zs {v:Value}:Zn v->Zs v:=λ⟨a,e⟩=>⟨a,0,e,λ_=>rfl⟩
def fH (p:Option (Nat×Nat)) (z o n:Nat) (v:Value):Prop:=n<dU/\match p with
 |none=>n=0/\Zn v
 |some (b,s)=>(∃c,v= .slice (some ⟨b,o*z,none⟩) n c/\n<=c/\o*z+c*z<=s)\/(n=0/\∃a,v= .slice a 0 0)
def Ty.off:List vi->Ty->Option Nat
 |[],_=>some 0
 | .o_ k::w,t=>(match t.o_ k with|some (y,o)=>(match Ty.off w y with|some q=>some (o+q)|none=>none)|none=>none)
 | .rU n::w, .ar m e=>if n<m then(match Ty.off w e with|some q=>some (n*e.cells+q)|none=>none) else none
 | .rU _::_,_=>none
def TB.off (w:List vi):TB->Option Nat
 | .row e l=>(match w with| .rU n::w=>if n<List.length l then(match e.off w with|some q=>some (n*e.cells+q)|none=>none) else none|_=>none)
 | .box t _=>if t=cO then none else t.off w
 | .any _=>(match w with|[]=>some 0|_=>none)
structure Bs where
 F0:Nat->Prop
 H:List TE
 bs:List (Option (Nat×Nat))
 w:World
def Bs.e (B:Bs) (j:Nat):TE:=nth .bu B.H j
def Bs.b (B:Bs) (j:Nat):Option (Nat×Nat):=nth none B.bs j
def Bs.own (B:Bs) (j:Nat):Prop:=(B.e j).st=1\/(B.e j).st=2
def Bs.F (B:Bs) (b:Nat):Prop:=B.F0 b\/∃j s,B.own j/\B.b j=some (b,s)
def JH (F:Nat->Prop) (w:World) (t:Ty) (x:t.T) (v:Value):Prop:=
 ∃b o cs T fz,v= .pointer (some ⟨b,o,none⟩)/\¬F b/\w.heap[b]? =some (.cells cs T fz)/\o+t.cells<=cs.size/\bI F w t x (fw cs) o
def qi (cs:Array Value):Prop:=∀u∈cs,u.oneCell'=true
def xI (ag:Bool) (n:Nat) (v:Value):Prop:=if ag=true then∃cs,v= .agg cs/\cs.size=n/\qi cs else v.oneCell'=true/\n=1
def Whole (x:TV) (R:(Nat->Value)->Nat->Prop) (v:Value):Prop:=match x with
 | .bU=>True
 | .nI=>v=undef
 | .tp _=>False
 |x=>xI x.ag x.cells v/\R (cv v) 0
mutual
def Rp (B:Bs):TV->(Nat->Value)->Nat->Prop
 | .bU,_,_=>True
 | .nI,_,_=>False
 | .nl,c,o=>c o= .slice none 0 0
 | .v t x,c,o=>bI B.F B.w t x c o
 | .r j,c,o=>(B.e j).st≠7/\match(B.e j).b with| .row e l=>fH (B.b j) e.cells 0 (List.length l) (c o)|_=>False
 | .rn j n,c,o=>(B.e j).st≠7/\match(B.e j).b with| .row e l=>n<=List.length l/\fH (B.b j) e.cells 0 n (c o)|_=>False
 | .rs j m n,c,o=>(B.e j).st≠7/\match(B.e j).b with| .row e l=>m+n<=List.length l/\fH (B.b j) e.cells m n (c o)|_=>False
 | .p j w,c,o=>(B.e j).st≠7/\∃b s q,B.b j=some (b,s)/\(B.e j).b.off w=some q/\c o= .pointer (some ⟨b,q,none⟩)
 | .q t x,c,o=>JH B.F B.w t x (c o)
 | .un,_,_=>True
 | .pr x y,c,o=>Rp B x c o/\Rp B y c (o+x.cells)
 | .tp _,_,_=>False
 | .cl e l,c,o=>(∃p n,c o= .slice p n n)/\bI B.F B.w (.sl e) l c o
 | .nz n,c,o=>∃b,c o= .bool b/\(b=true->n=0)
 | .sa j w n,c,o=>(B.e j).st≠7/\∃b s q,B.b j=some (b,s)/\(B.e j).b.off w=some q/\c o= .slice (some ⟨b,q,none⟩) n n
 | .m j,c,o=>(B.e j).st≠7/\(∃x,(B.e j).b= .box cO x)/\∃b s,B.b j=some (b,s)/\c o= .map (some b)
 | .f g x n m,c,o=>∃fs cs,c o= .func (.func g) fs cs/\fs.size=n/\cs.size=m/\Rl B x (fs.toList++cs.toList)
def Rl (B:Bs):TV->List Value->Prop
 | .un,l=>l=[]
 | .pr x y,l=>∃v r,l=v::r/\Whole x (Rp B x) v/\Rl B y r
 |_,_=>False
end
def Rv (B:Bs) (x:TV) (v:Value):Prop:=match x with
 | .tp y=>∃vs,v= .tuple vs/\Rl B y vs.toList
 |x=>Whole x (Rp B x) v
def UH (cs:Array Value) (fz:Nat×Nat):Prop:=fz.1=fz.2\/cs.size<=fz.1
def qh (w:World) (p:Option (Nat×Nat)) (st:Nat) (Q:Array Value->Prop):Prop:=∃b cs T fz,p=some (b,cs.size)/\w.heap[b]? =some (.cells cs T fz)/\(st≠0->UH cs fz)/\Q cs
def Xb:Value->List Nat
 | .string s=>bZ s
 |_=>[]
def Ie (es:Array MapEntry) (l:List (List Nat)):Prop:=(∀e∈es.toList,∃s,e.key= .string s/\e.val= .bool true)/\es.toList.map (λe=>Xb e.key)=l
def YO (w:World) (p:Option (Nat×Nat)) (l:List (List Nat)):Prop:=∃b es cl,p=some (b,0)/\w.heap[b]? =some (.map es cl)/\Ie es l
def BxR (B:Bs) (t:Ty) (c:TV) (st:Nat) (p:Option (Nat×Nat)):Prop:=(t≠cO/\qh B.w p st λcs=>t.cells<=cs.size/\qi cs/\Rp B c (fw cs) 0)\/(t=cO/\∃l,c= .v cO ((),l)/\YO B.w p l)
def lg (B:Bs) (e:TE) (p:Option (Nat×Nat)):Prop:=match e with
 |⟨st, .row e l⟩=>st<=2->List.length l<dU/\1<=e.cells/\((p=none/\List.length l=0)\/qh B.w p st λcs=>List.length l*e.cells<=cs.size/\bQ (bI B.F B.w e) e.cells l (fw cs) 0)
 |⟨st, .box t c⟩=>st<=2->fit t c=true/\BxR B t c st p
 |⟨st, .any c⟩=>st<=2->c.cells=1/\qh B.w p st λcs=>1<=cs.size/\qi cs/\Rp B c (fw cs) 0
def TB.hZ:TB->TB->Prop
 | .row e l, .row e' l'=>e=e'/\List.length l=List.length l'
 | .box t _, .box t' _=>t=t'
 | .any _, .any _=>True
 |_,_=>False
structure bo (B B':Bs):Prop where
 k:kA B.F B.w B'.F B'.w
 e:∀j,(B.e j).st≠7->(B'.e j).st≠7/\B'.b j=B.b j/\(B.e j).b.hZ (B'.e j).b
theorem qN {x y:TB} (h:x.hZ y) (w:List vi):y.off w=x.off w:=by
 cases x<;>cases y<;>first|exact h.elim|skip
 ·obtain⟨h1,h2⟩:=h;subst h1;cases w with
  |nil=>rfl
  |cons a w=>cases a with
   |o_ k=>rfl
   |rU n=>simp only[TB.off,h2]
 ·have h1:_=_:=h;subst h1;rfl
 ·rfl
theorem Whole.imp {x:TV} {R R':(Nat->Value)->Nat->Prop} (h:∀c o,R c o->R' c o) {a:Value} (H:Whole x R a):Whole x R' a:=by
 cases x<;>first|exact H|exact⟨H.1,h _ _ H.2⟩
theorem cu (x:TB):x.hZ x:=by
 cases x with
 |row e l=>exact⟨rfl,rfl⟩
 |box t c=>rfl
 |any c=>trivial
theorem pI {x y z:TB} (h:x.hZ y) (h':y.hZ z):x.hZ z:=by
 cases x<;>cases y<;>first|exact h.elim|skip
 all_goals cases z<;>first|exact h'.elim|skip
 ·exact⟨h.1.trans h'.1,h.2.trans h'.2⟩
 ·exact Eq.trans h h'
 ·trivial
theorem wZ {B B':Bs} (L:bo B B') {j:Nat} {G:(p:Option (Nat×Nat))->Ty->Nat->Prop} (h:(B.e j).st≠7/\match(B.e j).b with| .row e l=>G (B.b j) e (List.length l)|_=>False):
 (B'.e j).st≠7/\match(B'.e j).b with| .row e l=>G (B'.b j) e (List.length l)|_=>False:=by
 obtain⟨h0,h⟩:=h;obtain⟨k0,g2,g3⟩:=L.e j h0;refine⟨k0,?_⟩;revert h g3;cases(B.e j).b<;>cases(B'.e j).b<;>intro h g3<;>first|exact h.elim|exact g3.elim|skip
 obtain⟨g4,g5⟩:=g3;subst g4;show G (B'.b j) _ _;rw[g2,<-g5];exact h
mutual
theorem Rp.mono {B B':Bs} (L:bo B B'):∀(x:TV) (c:Nat->Value) (o:Nat),Rp B x c o->Rp B' x c o
 | .bU,_,_,_=>trivial
 | .nI,_,_,h=>h.elim
 | .nl,_,_,h=>h
 | .v t x,c,o,h=>bI.mono L.k t x c o h
 | .r j,c,o,h=>wZ L (G:=λp e n=>fH p e.cells 0 n (c o)) h
 | .rn j n,c,o,h=>wZ L (G:=λp e k=>n<=k/\fH p e.cells 0 n (c o)) h
 | .rs j m n,c,o,h=>wZ L (G:=λp e k=>m+n<=k/\fH p e.cells m n (c o)) h
 | .p j w,c,o,⟨h0,h⟩=>by
   obtain⟨k0,g2,g3⟩:=L.e j h0;obtain⟨b,s,q,k1,k2,k3⟩:=h;exact⟨k0,b,s,q,by rw[g2,k1],by rw[qN g3,k2],k3⟩
 | .q t x,c,o,⟨b,p,cs,T,fz,k1,k2,k3,k4,k5⟩=>by
   obtain⟨g1,fz',g2⟩:=L.k b cs T fz k2 k3;exact⟨b,p,cs,T,fz',k1,g1,g2,k4,bI.mono L.k t x _ _ k5⟩
 | .un,_,_,_=>trivial
 | .pr x y,c,o,⟨h1,h2⟩=>⟨Rp.mono L x c o h1,Rp.mono L y c _ h2⟩
 | .tp _,_,_,h=>h.elim
 | .f g x n m,c,o,⟨fs,cs,h1,h2,h3,h4⟩=>⟨fs,cs,h1,h2,h3,Rl.mono L x _ h4⟩
 | .cl e l,c,o,⟨h1,h2⟩=>⟨h1,bI.mono L.k (.sl e) l c o h2⟩
 | .nz _,_,_,h=>h
 | .m j,c,o,⟨h0,⟨x,h1⟩,b,s,h2,h3⟩=>by
   obtain⟨k0,g2,g3⟩:=L.e j h0;rw[h1] at g3;refine⟨k0,?_,b,s,by rw[g2,h2],h3⟩;revert g3;cases(B'.e j).b with
   |box t' c'=>intro g3;have g3:cO=t':=g3;exact⟨c',by rw[g3]⟩
   |_=>exactλg=>g.elim
 | .sa j w n,c,o,⟨h0,h⟩=>by
   obtain⟨k0,g2,g3⟩:=L.e j h0;obtain⟨b,s,q,k1,k2,k3⟩:=h;exact⟨k0,b,s,q,by rw[g2,k1],by rw[qN g3,k2],k3⟩
theorem Rl.mono {B B':Bs} (L:bo B B'):∀(x:TV) (l:List Value),Rl B x l->Rl B' x l
 | .un,_,h=>h
 | .pr x y,l,⟨v,r,h1,h2,h3⟩=>⟨v,r,h1,h2.imp λc o=>Rp.mono L x c o,Rl.mono L y r h3⟩
 | .bU,_,h| .nI,_,h| .nl,_,h| .v _ _,_,h| .r _,_,h| .rn _ _,_,h| .rs _ _ _,_,h| .p _ _,_,h| .q _ _,_,h| .tp _,_,h| .f _ _ _ _,_,h| .cl _ _,_,h| .nz _,_,h| .sa _ _ _,_,h| .m _,_,h=>h.elim
end
theorem lx {B:Bs} {x:TV} {a:Value} (h:∀y,x≠ .tp y):Rv B x a=Whole x (Rp B x) a:=by
 cases x<;>first|rfl|exact absurd rfl (h _)
theorem Rv.mono {B B':Bs} (L:bo B B') {x:TV} {a:Value} (h:Rv B x a):Rv B' x a:=by
 by_cases e:∃y,x= .tp y
 ·obtain⟨y,rfl⟩:=e;obtain⟨t,h1,h2⟩:=h;exact⟨t,h1,Rl.mono L y _ h2⟩
 ·have e:∀y,x≠ .tp y:=λy h=>e ⟨y,h⟩
  rw[lx e] at h⊢;exact h.imp λc o=>Rp.mono L x c o
theorem Rp.dP {B:Bs}:∀(x:TV) {c c':Nat->Value} {o o':Nat},(∀j,j<x.cells->c' (o'+j)=c (o+j))->Rp B x c o->Rp B x c' o'
 | .bU,_,_,_,_,_,_=>trivial
 | .nI,_,_,_,_,_,h=>h.elim
 | .un,_,_,_,_,_,_=>trivial
 | .tp _,_,_,_,_,_,h=>h.elim
 | .v t x,_,_,_,_,h,h1=>bI.dP t x h h1
 | .pr x y,c,c',o,o',h,⟨h1,h2⟩=>⟨Rp.dP x (λj hj=>h j (by show j<x.cells+y.cells;omega)) h1,
    Rp.dP y (λj hj=>by have:=h (x.cells+j) (by show x.cells+j<x.cells+y.cells;omega)
                       rw[adV,adV];exact this) h2⟩
 | .f g x n m,c,c',o,o',h,⟨fs,cs,h1,h2⟩=>⟨fs,cs,(h 0 aek).trans h1,h2⟩
 | .sa j w n,c,c',o,o',h,⟨h0,h1⟩=>⟨h0,by
    obtain⟨b,s,q,k1,k2,k3⟩:=h1;exact⟨b,s,q,k1,k2,(h 0 aek).trans k3⟩⟩
 | .nz n,c,c',o,o',h,h1=>by
    have e:c' o'=c o:=h 0 aek;unfold Rp;rw[e];exact h1
 | .m j,c,c',o,o',h,h1=>by
    have e:c' o'=c o:=h 0 aek;unfold Rp at h1⊢;rw[e];exact h1
 | .cl e l,c,c',o,o',h,⟨h1,h2⟩=>⟨by rw[show c' o'=c o from h 0 aek];exact h1,bI.dP (.sl e) l (λj hj=>h j hj) h2⟩
 | .p j w,c,c',o,o',h,⟨h0,h1⟩=>⟨h0,by
    obtain⟨b,s,q,k1,k2,k3⟩:=h1;exact⟨b,s,q,k1,k2,(h 0 aek).trans k3⟩⟩
 | .nl,c,c',o,o',h,h1=>by have e:c' o'=c o:=h 0 aek
                          unfold Rp;rw[e];exact h1
 | .q t x,c,c',o,o',h,h1=>by have e:c' o'=c o:=h 0 aek
                             unfold Rp;rw[e];exact h1
 | .r j,c,c',o,o',h,h1=>by have e:c' o'=c o:=h 0 aek
                           unfold Rp at h1⊢;rw[e];exact h1
 | .rn j n,c,c',o,o',h,h1=>by have e:c' o'=c o:=h 0 aek
                              unfold Rp at h1⊢;rw[e];exact h1
 | .rs j m n,c,c',o,o',h,h1=>by have e:c' o'=c o:=h 0 aek
                                unfold Rp at h1⊢;rw[e];exact h1
theorem dF {α:Type} (d:α):∀(l m:List α) (i:Nat),nth d (l++m) i=if i<l.length then nth d l i else nth d m (i-l.length)
 |[],m,i=>by simp
 |a::l,m,0=>by simp[nth]
 |a::l,m,i+1=>by
  show nth d (l++m) i=_;rw[dF d l m i]
  by_cases h:i<l.length
  ·rw[adp h,adp (by simp;omega)];rfl
  ·rw[adq h,adq (by simp;omega)];congr 1;simp only[adB];omega
theorem dw {α:Type} (d:α):∀(l:List α) (i:Nat),l.length<=i->nth d l i=d
 |[],_,_=>rfl
 |_::_,0,h=>absurd h (by simp)
 |_::l,i+1,h=>dw d l i (by simpa using h)
theorem cx {α:Type} (d x:α):∀(l:List α) (i j:Nat),nth d (setAt x l i) j=if j=i/\i<l.length then x else nth d l j
 |[],i,j=>by simp[setAt,nth]
 |a::l,0,0=>by simp[setAt,nth]
 |a::l,0,j+1=>by simp[setAt,nth]
 |a::l,i+1,0=>by simp[setAt,nth]
 |a::l,i+1,j+1=>by
  show nth d (setAt x l i) j=_;rw[cx d x l i j]
  by_cases h:j=i/\i<l.length
  ·rw[adp h,adp (by simp;omega)]
  ·rw[adq h,adq (by simp;omega)];rfl
theorem pW {α:Type} {d x:α}:∀{l:List α} {i:Nat},nth d l i=x->setAt x l i=l
 |[],_,_=>rfl
 |a::r,0,h=>by
  have h:a=x:=h;rw[h];rfl
 |a::r,i+1,h=>congrArg (a::·) (pW (l:=r) (i:=i) h)
theorem d5 {α:Type} (x:α):∀(l:List α) (i:Nat),(setAt x l i).length=l.length
 |[],_=>rfl
 |_::_,0=>rfl
 |_::l,i+1=>congrArg (·+1) (d5 x l i)
def dY (w w':World):Prop:=(w'.os,w'.tape)=(w.os,w.tape)/\w'.output=w.output
theorem dY.refl (w:World):dY w w:=⟨rfl,rfl⟩
theorem dY.trans {a b c:World} (h:dY a b) (k:dY b c):dY a c:=⟨k.1.trans h.1,k.2.trans h.2⟩
structure Fx where
 F0:Nat->Prop
 w0:World
 O:Nat->Prop
 DO:List (TV×Value)
 lk:List (Nat×TE×Option (Nat×Nat))
structure bw (X:Fx) (B:Bs):Prop where
 len:B.bs.length=B.H.length
 bP:∀j,lg B (B.e j) (B.b j)
 inj:∀i j b s s',B.own i->(B.e j).st<=2->B.b i=some (b,s)->B.b j=some (b,s')->i=j
 lo:∀j b s,(B.e j).st=1->B.b j=some (b,s)->¬X.O b
 fr:∀j b s,(B.e j).st<=2->B.b j=some (b,s)->¬X.F0 b
 old:∀b,X.O b->b<B.w.heap.size/\B.w.heap[b]? =X.w0.heap[b]?
 nx:X.w0.heap.size<=B.w.heap.size
 xo:∀b,X.F0 b->b<X.w0.heap.size
 io:dY X.w0 B.w
 F0:B.F0=X.F0
 DO:∀x∈X.DO,Rv B x.1 x.2
 lk:∀x∈X.lk,x.1<B.H.length/\B.e x.1=x.2.1/\B.b x.1=x.2.2/\x.2.1.st≠1
theorem jB {B:Bs} {j:Nat} (h:(B.e j).st≠7):j<B.H.length:=by
 by_cases e:j<B.H.length
 ·exact e
 ·have:B.e j= .bu:=dw _ _ _ ade;rw[this] at h;exact absurd rfl h
theorem jx {B:Bs} {j:Nat} (h:B.own j):(B.e j).st<=2:=by rcases h with h|h<;>omega
theorem bo.refl (B:Bs):bo B B:=⟨λ_ _ _ fz h1 h2=>⟨h1,fz,h2⟩,λ_ h=>⟨h,rfl,cu _⟩⟩
theorem bo.trans {A B C:Bs} (h:bo A B) (h':bo B C):bo A C:=by
 refine⟨λb cs T fz h1 h2=> ?_,λj hj=> ?_⟩
 ·obtain⟨g1,fz',g2⟩:=h.k b cs T fz h1 h2;exact h'.k b cs T fz' g1 g2
 ·obtain⟨k1,k2,k3⟩:=h.e j hj;obtain⟨m1,g2,g3⟩:=h'.e j k1;exact⟨m1,g2.trans k2,pI k3 g3⟩
theorem qh.mono {w w':World} {p:Option (Nat×Nat)} {st:Nat} {Q Q':Array Value->Prop} (hw:∀b s,p=some (b,s)->w'.heap[b]? =w.heap[b]?) (hQ:∀cs,Q cs->Q' cs):qh w p st Q->qh w' p st Q'
 |⟨b,cs,T,fz,h1,h2,h3,h4⟩=>⟨b,cs,T,fz,h1,(hw b _ h1).trans h2,h3,hQ cs h4⟩
theorem lg.mono {B B':Bs} (L:bo B B') {e:TE} {p:Option (Nat×Nat)} (h:∀b s,p=some (b,s)->B'.w.heap[b]? =B.w.heap[b]?) (H:lg B e p):lg B' e p:=by
 obtain⟨st,tb⟩:=e;cases tb with
 |row e l=>
  intro hs;obtain⟨h1,h2,h3⟩:=H hs;exact⟨h1,h2,h3.imp id λh3=>h3.mono h λcs ⟨q1,q2⟩=>⟨q1,bQ.mono (bI.mono L.k e) l _ _ q2⟩⟩
 |box t c=>
  intro hs;obtain⟨h0,h3⟩:=H hs;refine⟨h0,h3.imp (λh3=>⟨h3.1,h3.2.mono h λcs ⟨q1,q0,q2⟩=>⟨q1,q0,Rp.mono L c _ _ q2⟩⟩) λ⟨g1,l,g2,b,es,cl,g3,g4,g5⟩=>⟨g1,l,g2,b,es,cl,g3,(h b 0 g3).trans g4,g5⟩⟩
 |any c=>
  intro hs;obtain⟨h0,h3⟩:=H hs;exact⟨h0,h3.mono h λcs ⟨q1,q0,q2⟩=>⟨q1,q0,Rp.mono L c _ _ q2⟩⟩
theorem jO {B:Bs} {e:TE} {p:Option (Nat×Nat)} (h:¬e.st<=2):lg B e p:=by
 obtain⟨st,tb⟩:=e;cases tb<;>exactλh'=>absurd h' h
theorem lg.a0B {B:Bs} {e:TE} {b s:Nat} (H:lg B e (some (b,s))) (hs:e.st<=2) (hm:∀c,e.b≠ .box cO c):∃cs T fz,s=cs.size/\B.w.heap[b]? =some (.cells cs T fz)/\(e.st≠0->UH cs fz):=by
 have key:∀{Q:Array Value->Prop},qh B.w (some (b,s)) e.st Q->∃cs T fz,s=cs.size/\B.w.heap[b]? =some (.cells cs T fz)/\(e.st≠0->UH cs fz):=by
  rintro Q ⟨b',cs,T,fz,h1,h2,h3,_⟩;injection h1 with h1;injection h1 with h0 h1;subst h0;subst h1
  exact⟨cs,T,fz,rfl,h2,h3⟩
 obtain⟨st,tb⟩:=e;cases tb with
 |row e l=>obtain⟨_,_,h|h⟩:=H hs;(·cases h.1);exact key h
 |box t c=>
  rcases(H hs).2 with h|h
  ·exact key h.2
  ·exact absurd (by rw[h.1]) (hm c)
 |any c=>exact key (H hs).2
theorem lg.size {B:Bs} {e:TE} {b s:Nat} (H:lg B e (some (b,s))) (hs:e.st<=2):b<B.w.heap.size:=by
 by_cases hm:∀c,e.b≠ .box cO c
 ·obtain⟨cs,T,fz,_,h,_⟩:=H.a0B hs hm;exact(ae3.1 h).1
 ·have⟨c,hm⟩:∃c,e.b= .box cO c:=Classical.byContradiction λk=>hm λc hc=>k ⟨c,hc⟩
  obtain⟨st,tb⟩:=e;have hm:tb= .box cO c:=hm;subst hm;rcases(H hs).2 with h|⟨_,l,_,b',es,cl,h1,h2,_⟩
  ·exact absurd rfl h.1
  ·cases h1;exact(ae3.1 h2).1
end
end Go.Proofs.YtbjcjppphoppfaaGreat.T
