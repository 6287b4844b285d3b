import Derived.Test.YtbjcjppphoppfaaGreatEAX
set_option linter.all false
namespace Go.Proofs.YtbjcjppphoppfaaGreat.M
open Go.Proofs.YtbjcjppphoppfaaGreat.T hiding a8 ae av aH aw bd bM cC
theorem Tg (a b c:Int):Tf a b c=some (decide (b<=a)&&decide (a<=c)):=by
 unfold Tf;simp only[ao,aE,aN,aG,aW,aZ,ax,bc,aA,bg,a9,au,join_some,join_none,ak,aI,aF,ay,aS,adk,adn,adj];grind
theorem ZQ (a:Int):ZP a=some (!(decide (0<=a)&&decide (a<=65535))):=by
 unfold ZP;rw[Tg];simp only[ao,aE,aN,aG,aW,aZ,ax,bc,aA,bg,a9,au,join_some,join_none,ak,aI,aF,ay,aS,adk,adn,adj]
def qO (l:ib):Bool:=(decide (1<=l.1)&&decide (l.1<=5000))&&((decide (0<=l.2.1)&&decide (l.2.1<=4096))&&((decide (0<=l.2.2.1)&&decide (l.2.2.1<=16384))&&(decide (1<=l.2.2.2.1)&&decide (l.2.2.2.1<=16))))
def xA (c:Int):Bool:=decide (0<=c)&&decide (c<=65535)
def Fu (x:qj):Int:=if(qO x.2.1&&decide ((x.1.length:Int)<=2000))=true then(if(List.range x.1.length).all (λi=>xA (a8 x.1 i))=true then 0 else 8) else 8
theorem V5 (l:ib):Qm l=some (qO l):=by
 unfold Qm qO;simp only[ao,aE,aN,aG,aW,aZ,ax,bc,aA,bg,a9,au,join_some,join_none,ak,aI,aF,ay,aS,adk,adn,adj];grind
theorem zC {E:Type} (p:Nat->Bool):∀(n i:Nat),∃j,i<=j/\runN (E:=E) (λi (_:Unit)=>if p i=true then some (.ok ()) else some (.rt (i:Int))) n i ()=if(List.range' i n).all p=true then some (.ok ()) else some (.rt (j:Int))
 |0,i=>⟨i,adw i,by simp[runN]⟩
 |n+1,i=>by
  cases h:p i with
  |true=>
   obtain⟨j,h1,h2⟩:=zC (E:=E) p n (i+1);refine⟨j,ade,?_⟩;unfold runN;rw[List.range'_succ,adZ,h];simp only[adA,adW];exact h2
  |false=>
   refine⟨i,adw i,?_⟩;unfold runN;rw[List.range'_succ,adZ,h];simp
theorem lL {E ρ:Type} {f:Int->Option (T.LR Int E Int)} {kx:E->Option ρ} {kr:Int->Option ρ} (n:Nat) (p:Nat->Bool) (e:E) (hn:n<9223372036854775808) (h1:∀i:Nat,i<n->f (i:Int)=if p i=true then some (.ok ((i+1:Nat):Int)) else some (.rt (i:Int))) (h2:f (n:Int)=some (.ex e)):
 ∃j:Nat,loop Int E Int f 0 kx kr=if(List.range n).all p=true then kx e else kr (j:Int):=by
 obtain⟨j,_,hj⟩:=zC (E:=E) p n 0;refine⟨j,?_⟩;show loop Int E Int f ((0:Nat):Int) kx kr=_;rw[sK (A:=Unit) (λi _=>(i:Int)) (λi _=>if p i=true then some (.ok ()) else some (.rt (i:Int))) (λ_=>e) n () rfl hn (λi a hi=>by rw[h1 i hi];split<;>rfl) (λ_=>h2),hj,<-List.range_eq_range'];split<;>rfl
theorem Zm {x:qj} (h:x.1.length<4611686018427387904):f47 x=some (Fu x):=by
 unfold f47;obtain⟨j,hj⟩:=lL (ρ:=Bool) (E:=Unit) (f:=λv1=>(af (aO v1 x.1.length) (λ_=>(ai x.1.length v1 (λv2=>(bind (ZP (a8 x.1 v2)) (λv3=>(af v3 (λ_=>(bT v1)) λ_=>(bh (ab 3 v1 1)))))))) λ_=>(lex ()))) (kx:=λ_=>(some (cB 0 (-1)))) (kr:=λv1=>(some (cB 0 v1))) x.1.length (λi=>xA (a8 x.1 i)) () ade (λi hi=>by
  have a1:ab 3 (i:Int) 1=((i+1:Nat):Int):=by rw[c8 ade ade];rfl
  simp only[ao,aE,aN,aG,aW,aZ,ax,bc,aA,bg,a9,au,join_some,join_none,ak,aI,aF,ay,aS,adk,adn,adj,a1,hi,adA,ZQ,xA,bh,bT];grind) (by
  simp only[ao,aE,aN,aG,aW,aZ,ax,bc,aA,bg,a9,au,join_some,join_none,ak,aI,aF,ay,aS,adk,adn,adj,lex];grind)
 rw[hj];unfold Fu qO;simp only[ao,aE,aN,aG,aW,aZ,ax,bc,aA,bg,a9,au,join_some,join_none,ak,aI,aF,ay,aS,adk,adn,adj,Tg];grind
theorem ZD {x:qj} (h:x.1.length<4611686018427387904):f66 x=some (Fu x):=by
 unfold f66;rw[bA x.1.length (λi=>xA (a8 x.1 i)) 8 () ade ?_ ?_]
 ·unfold Fu;simp only[ao,aE,aN,aG,aW,aZ,ax,bc,aA,bg,a9,au,join_some,join_none,ak,aI,aF,ay,aS,adk,adn,adj,V5];grind
 ·intro i hi;have a1:ab 3 (i:Int) 1=((i+1:Nat):Int):=by rw[c8 ade ade];rfl
  simp only[ao,aE,aN,aG,aW,aZ,ax,bc,aA,bg,a9,au,join_some,join_none,ak,aI,aF,ay,aS,adk,adn,adj,a1,hi,adA,xA,bh,bT];grind
 ·simp only[ao,aE,aN,aG,aW,aZ,ax,bc,aA,bg,a9,au,join_some,join_none,ak,aI,aF,ay,aS,adk,adn,adj,lex];grind
theorem Zh (l:ib):f34 l=some (qO l):=by
 unfold f34;rw[ZD (by show(0:Nat)<_;omega)];unfold Fu;simp only[ao,aE,aN,aG,aW,aZ,ax,bc,aA,bg,a9,au,join_some,join_none,ak,aI,aF,ay,aS,adk,adn,adj];cases qO l<;>rfl
def fS (x:aq):Bool:=decide (x.1=65536)&&(decide (((x.2.1.length %8:Nat):Int)=0)&&decide ((x.2.1.length:Int)<=16384))
theorem OX (n:Nat) (h:n<4611686018427387904):w_ 3 (n:Int) 8=((n %8:Nat):Int):=by
 rw[T.OY];have e:Int.tmod (n:Int) 8=((n %8:Nat):Int):=by
  rw[Int.tmod_eq_emod_of_nonneg ade];omega
 rw[e,Ke ade ade]
theorem yA {x:aq} (h:x.2.1.length<4611686018427387904):Rh x=some (fS x):=by
 unfold Rh fS;generalize hl:x.2.1.length=len at*;simp only[ao,aE,aN,aG,aW,aZ,ax,bc,aA,bg,a9,au,join_some,join_none,ak,aI,aF,ay,aS,adk,adn,adj,T.sQ,OX _ h];grind
theorem Th {x:aq} (h:x.2.1.length<4611686018427387904) (n:Int):ZR x n=some (if fS x=true then(if n<0\/16384<n then 2 else 0) else 8):=by
 unfold ZR fS;simp only[ao,aE,aN,aG,aW,aZ,ax,bc,aA,bg,a9,au,join_some,join_none,ak,aI,aF,ay,aS,adk,adn,adj,T.sQ,OX _ h];grind
@[grind =] theorem mw {S E Q ρ:Type} (s:S) (k:S->Option ρ) (kx:E->Option ρ) (kr:Q->Option ρ):part S E Q (some (.ok s)) k kx kr=k s:=rfl
@[grind =] theorem a4h {S E Q ρ:Type} (s:E) (k:S->Option ρ) (kx:E->Option ρ) (kr:Q->Option ρ):part S E Q (some (.ex s)) k kx kr=kx s:=rfl
@[grind =] theorem ou {S E Q ρ:Type} (s:Q) (k:S->Option ρ) (kx:E->Option ρ) (kr:Q->Option ρ):part S E Q (some (.rt s)) k kx kr=kr s:=rfl
def dS (i:Nat):Nat:=16777216*(i+1)
def Yy (pc:Nat):Bool:=decide (256<=pc)&&decide (pc<8448)
def Yn (v:Nat):Bool:=decide (v=0)||(decide (v %8=0)&&decide (65536<=v))
def x9 (i:Nat) (x:d8):Bool:=
 if x.1=3 then decide (x.2.1=0)&&(decide (x.2.2.1=dS i)&&(decide (x.2.2.2.1=0)&&(decide (x.2.2.2.2.1=0)&&decide (x.2.2.2.2.2.1=0))))
 else(decide (dS i+24<=x.2.2.1)&&(decide (x.2.2.1<=dS i+4096)&&decide (x.2.2.1 %8=0)))&&((decide (x.1=2)||(decide (x.1=1)&&decide (x.2.2.2.2.2.1=0)))&&(Yy x.2.1&&(Yn x.2.2.2.1&&Yn x.2.2.2.2.1)))
theorem Ld {i:Nat} (h:i<16):Eb (i:Int)=some (dS i):=by
 unfold Eb dS;rw[T.sP,lV,c8 ade ade];exact congrArg some (show 16777216*(((i:Int)+1) %18446744073709551616).toNat %18446744073709551616=16777216*(i+1) by omega)
theorem T2 {i:Nat} (h:i<16):Wu (i:Int)=some (dS i):=by
 unfold Wu dS;rw[c8 ade ade,eh ade ade,lV];exact congrArg some (show(16777216*((i:Int)+1) %18446744073709551616).toNat=16777216*(i+1) by omega)
theorem Vg (v:Nat):Le v=some (Yy v):=by
 unfold Le Yy;simp only[ao,aE,aN,aG,aW,aZ,ax,bc,aA,bg,a9,au,join_some,join_none,ak,aI,aF,ay,aS,adk,adn,adj];grind
theorem V6 (v:Nat):Qn v=some (Yy v):=by
 have e:Yy v=(decide (1<=v/256)&&decide (v/256<=32)):=by
  unfold Yy;rw[ae8];simp only[adr,adk];omega
 unfold Qn;rw[e];simp only[ao,aE,aN,aG,aW,aZ,ax,bc,aA,bg,a9,au,join_some,join_none,ak,aI,aF,ay,aS,adk,adn,adj,T.e9,T.wY];grind
theorem Vh (v:Nat):Ec v=some (Yn v):=by
 unfold Ec Yn;simp only[ao,aE,aN,aG,aW,aZ,ax,bc,aA,bg,a9,au,join_some,join_none,ak,aI,aF,ay,aS,adk,adn,adj,T.e9,T.dR];grind
theorem V7 (v:Nat):KV v=some (Yn v):=by
 unfold KV Yn;simp only[ao,aE,aN,aG,aW,aZ,ax,bc,aA,bg,a9,au,join_some,join_none,ak,aI,aF,ay,aS,adk,adn,adj,T.e9,T.dR];grind
theorem UY (x y:d8):nb x y=(decide (x.1=y.1)&&(decide (x.2.1=y.2.1)&&(decide (x.2.2.1=y.2.2.1)&&(decide (x.2.2.2.1=y.2.2.2.1)&&(decide (x.2.2.2.2.1=y.2.2.2.2.1)&&(decide (x.2.2.2.2.2.1=y.2.2.2.2.2.1)&&true)))))):=by
 show(aR x.1 y.1&&(aR x.2.1 y.2.1&&(aR x.2.2.1 y.2.2.1&&(aR x.2.2.2.1 y.2.2.2.1&&(aR x.2.2.2.2.1 y.2.2.2.2.1&&(bm x.2.2.2.2.2.1 y.2.2.2.2.2.1&&true))))))=_;simp only[ax,aG]
theorem rq {a b:Nat} (h:b<=a) (ha:a<18446744073709551616):eE 7 a b=a-b:=by
 rw[T.Pd];show(a+18446744073709551616-b) %18446744073709551616=_;omega
theorem gS {a b:Nat} (h:a+b<18446744073709551616):cP 7 a b=a+b:=by
 rw[T.vl];show(a+b) %18446744073709551616=_;omega
theorem SO (i:Nat) (h:i<16):dS i %8=0/\dS i<=268435456:=by unfold dS;omega
theorem ZS {i:Nat} (h:i<16) {x:d8} (hx:x.2.2.1<18446744073709551616):f90 (i:Int) x=some (x9 i x):=by
 unfold f90 x9;obtain⟨g1,g2⟩:=SO i h;simp only[Ld h,a9,UY,Vg,Vh];generalize dS i=b at*;obtain⟨st,pc,sp,a,c,w,u⟩:=x;dsimp only at hx⊢
 by_cases hb:b<=sp
 ·have k1:(sp-b) %8=sp %8:=by omega
  have k2:(sp-b<24)↔¬b+24<=sp:=ade;have k3:(4096<sp-b)↔¬sp<=b+4096:=ade;simp only[ao,aE,aN,aG,aW,aZ,ax,bc,aA,bg,a9,au,join_some,join_none,ak,aI,aF,ay,aS,adk,adn,adj,rq hb hx,T.e9,T.dR,k1,k2,k3];grind
 ·simp only[ao,aE,aN,aG,aW,aZ,ax,bc,aA,bg,a9,au,join_some,join_none,ak,aI,aF,ay,aS,adk,adn,adj,T.e9,T.dR];grind
theorem ZE {i:Nat} (h:i<16) {x:d8} (hx:x.2.2.1<18446744073709551616):f67 (i:Int) x=some (x9 i x):=by
 unfold f67 x9;obtain⟨g1,g2⟩:=SO i h;simp only[T2 h,a9,V6,V7];generalize dS i=b at*;obtain⟨st,pc,sp,a,c,w,u⟩:=x;dsimp only at hx⊢;have a1:=gS (a:=b) (b:=24) ade;have a2:=gS (a:=b) (b:=4096) ade
 by_cases h1:st=1
 ·subst h1
  by_cases hw:w=0
  ·subst hw;simp only[ao,aE,aN,aG,aW,aZ,ax,bc,aA,bg,a9,au,join_some,join_none,ak,aI,aF,ay,aS,adk,adn,adj,a1,a2,T.e9,T.dR,bh,bT,adA,not_true,ae7,mw,ou];grind
  ·simp only[ao,aE,aN,aG,aW,aZ,ax,bc,aA,bg,a9,au,join_some,join_none,ak,aI,aF,ay,aS,adk,adn,adj,a1,a2,T.e9,T.dR,bh,bT,adA,hw,not_false_eq_true,mw,ou];grind
 ·by_cases h2:st=2
  ·subst h2;simp only[ao,aE,aN,aG,aW,aZ,ax,bc,aA,bg,a9,au,join_some,join_none,ak,aI,aF,ay,aS,adk,adn,adj,a1,a2,T.e9,T.dR,bh,bT,h1,adA,ae7,mw,ou];grind
  ·by_cases h3:st=3
   ·subst h3;simp only[ao,aE,aN,aG,aW,aZ,ax,bc,aA,bg,a9,au,join_some,join_none,ak,aI,aF,ay,aS,adk,adn,adj,bh,bT,h1,h2,adA,ae7,mw,ou];grind
   ·simp only[ao,aE,aN,aG,aW,aZ,ax,bc,aA,bg,a9,au,join_some,join_none,ak,aI,aF,ay,aS,adk,adn,adj,bh,bT,h1,h2,h3,ae7,mw,ou];grind
def AL (x:d8):Prop:=x.2.2.1<18446744073709551616
def pd (l:List d8):Int:=if l.length=0\/16<l.length then 8 else if(List.range l.length).all (λi=>x9 i (a8 l i))=true then 0 else 8
theorem Zo {l:List d8} (h:∀x∈l,AL x):f49 l=some (pd l):=by
 unfold f49 pd
 by_cases hb:l.length=0\/16<l.length
 ·rw[adp hb];simp only[ao,aE,aN,aG,aW,aZ,ax,bc,aA,bg,a9,au,join_some,join_none,ak,aI,aF,ay,aS,adk,adn,adj];grind
 ·rw[adq hb];rw[bA l.length (λi=>x9 i (a8 l i)) 8 () ade ?_ ?_]
  ·simp only[ao,aE,aN,aG,aW,aZ,ax,bc,aA,bg,a9,au,join_some,join_none,ak,aI,aF,ay,aS,adk,adn,adj];grind
  ·intro i hi;have a1:ab 3 (i:Int) 1=((i+1:Nat):Int):=by rw[c8 ade ade];rfl
   have hx:AL (a8 l i):=by rw[bz hi];exact h _ (adT hi)
   simp only[ao,aE,aN,aG,aW,aZ,ax,bc,aA,bg,a9,au,join_some,join_none,ak,aI,aF,ay,aS,adk,adn,adj,a1,hi,adA,ZS (i:=i) ade hx,bh,bT];grind
  ·simp only[ao,aE,aN,aG,aW,aZ,ax,bc,aA,bg,a9,au,join_some,join_none,ak,aI,aF,ay,aS,adk,adn,adj,lex];grind
theorem Zi {l:List d8} (h:∀x∈l,AL x):f36 l=some (pd l):=by
 unfold f36 pd
 by_cases hb:l.length=0\/16<l.length
 ·rw[adp hb];simp only[ao,aE,aN,aG,aW,aZ,ax,bc,aA,bg,a9,au,join_some,join_none,ak,aI,aF,ay,aS,adk,adn,adj];grind
 ·rw[adq hb];rw[bA l.length (λi=>x9 i (a8 l i)) 8 () ade ?_ ?_]
  ·simp only[ao,aE,aN,aG,aW,aZ,ax,bc,aA,bg,a9,au,join_some,join_none,ak,aI,aF,ay,aS,adk,adn,adj];grind
  ·intro i hi;have a1:ab 3 (i:Int) 1=((i+1:Nat):Int):=by rw[c8 ade ade];rfl
   have hx:AL (a8 l i):=by rw[bz hi];exact h _ (adT hi)
   simp only[ao,aE,aN,aG,aW,aZ,ax,bc,aA,bg,a9,au,join_some,join_none,ak,aI,aF,ay,aS,adk,adn,adj,a1,hi,adA,ZE (i:=i) ade hx,bh,bT];grind
  ·simp only[ao,aE,aN,aG,aW,aZ,ax,bc,aA,bg,a9,au,join_some,join_none,ak,aI,aF,ay,aS,adk,adn,adj,lex];grind
def OZ (v:Nat):Bool:=decide (8<=v)&&(decide (v<=1099511627776)&&decide (v %8=0))
theorem VM (v:Nat):QR v=some (OZ v):=by
 unfold QR OZ;simp only[ao,aE,aN,aG,aW,aZ,ax,bc,aA,bg,a9,au,join_some,join_none,ak,aI,aF,ay,aS,adk,adn,adj,T.e9,T.dR];grind
theorem VX (v:Nat):QY v=some (OZ v):=by
 have e:OZ v=(decide (v %8=0)&&(decide (0<v)&&decide (v<=1099511627776))):=by
  unfold OZ;rw[ae8];simp only[adr,adk];omega
 unfold QY;rw[e];simp only[ao,aE,aN,aG,aW,aZ,ax,bc,aA,bg,a9,au,join_some,join_none,ak,aI,aF,ay,aS,adk,adn,adj,T.e9,T.dR];grind
def ko (x:aq):Int:=if(OZ x.1&&decide ((x.2.1.length:Int)<=20000))=true then 0 else 8
theorem Ac (x:aq):Ef x=some (ko x):=by
 unfold Ef ko;simp only[ao,aE,aN,aG,aW,aZ,ax,bc,aA,bg,a9,au,join_some,join_none,ak,aI,aF,ay,aS,adk,adn,adj,VM];grind
theorem Vy (x:aq):QE x=some (ko x):=by
 unfold QE ko;simp only[ao,aE,aN,aG,aW,aZ,ax,bc,aA,bg,a9,au,join_some,join_none,ak,aI,aF,ay,aS,adk,adn,adj,VX];grind
def Jp (n:Nat):Bool:=decide (((n %8:Nat):Int)=0)&&decide ((n:Int)<=4096)
def rV (x:aq):Bool:=(decide (x.1 %16777216=0)&&(decide (1<=x.1/16777216)&&decide (x.1/16777216<=16)))&&Jp x.2.1.length
theorem T8 {x:aq} (h:x.2.1.length<4611686018427387904):Zt x=some (if rV x=true then 0 else 8):=by
 unfold Zt rV Jp;simp only[ao,aE,aN,aG,aW,aZ,ax,bc,aA,bg,a9,au,join_some,join_none,ak,aI,aF,ay,aS,adk,adn,adj,T.e9,T.dR,T.wY,T.sQ,OX _ h];grind
theorem WH (v:Nat):(List.range 16).all (λi=> !decide (v=16777216*(i+1)))= !(decide (v %16777216=0)&&(decide (1<=v/16777216)&&decide (v/16777216<=16))):=by
 rw[ae8,adE];simp only[adn,adj,adL,ae6];constructor
 ·intro H
  by_cases h1:v %16777216=0
  ·by_cases h2:1<=v/16777216
   ·refine .inr (.inr λh3=>H (v/16777216-1) ade ade)
   ·exact .inr (.inl h2)
  ·exact .inl h1
 ·rintro H i hi rfl;omega
theorem Xo {i:Nat} (h:i<16):sO 7 16777216 (i+1)=16777216*(i+1):=by
 rw[T.sP];show 16777216*(i+1) %18446744073709551616=_;omega
theorem T3 {x:aq} (h:x.2.1.length<4611686018427387904):Zk x=some (rV x):=by
 unfold Zk;rw[fZ (λi=>i+1) 16 (λi=> !decide (x.1=16777216*(i+1))) (Jp x.2.1.length) () ?_ ade ?_ ?_]
 ·rw[WH];unfold rV;cases(decide (x.1 %16777216=0)&&(decide (1<=x.1/16777216)&&decide (x.1/16777216<=16)))<;>rfl
 ·rfl
 ·intro i hi;have a1:cP 7 (i+1) 1=i+1+1:=gS ade;simp only[ao,aE,aN,aG,aW,aZ,ax,bc,aA,bg,a9,au,join_some,join_none,ak,aI,aF,ay,aS,adk,adn,adj,a1,Xo hi,T.sQ,OX _ h,bh,bT,Jp];grind
 ·simp only[ao,aE,aN,aG,aW,aZ,ax,bc,aA,bg,a9,au,join_some,join_none,ak,aI,aF,ay,aS,adk,adn,adj,lex];grind
def jC (n:Nat):Nat:=max 8 ((n+7)/8*8)
theorem a33 {n:Int} (h:0<=n) (h':n<4611686018427387904):Dc 3 n 8=n/8:=by
 rw[T.AZ,Int.tdiv_eq_ediv_of_nonneg h,Ke ade ade]
theorem VI {n:Nat} (h:n<=4096):Lw (n:Int)=some (jC n:Int):=by
 unfold Lw jC;rw[c8 ade ade,a33 ade ade,eh ade ade,ny,T.zf,adi];exact congrArg some ade
theorem L_ {n:Nat} (h:n<=4096):LZ (n:Int)=some (jC n:Int):=by
 unfold LZ;have k0:jC n=8*(jC n/8)/\8<=jC n/\jC n<=4096+8/\(n<=jC n)/\(8<jC n->jC n<n+8):=by unfold jC;omega
 generalize jC n=m at*;obtain⟨g1,g2,g3,g4,g5⟩:=k0;rw[aV (λi=>((i+1:Nat):Int)) (m/8-1) ((m/8:Nat):Int) ?_ ade ?_ ?_]
 ·rw[eh ade ade];exact congrArg some ade
 ·rfl
 ·intro i hi;have a1:ab 3 ((i+1:Nat):Int) 1=((i+1+1:Nat):Int):=by rw[c8 ade ade];rfl
  have m1:fg 3 8 ((i+1:Nat):Int)=((8*(i+1):Nat):Int):=by rw[eh ade ade];omega
  have lt:((8*(i+1):Nat):Int)<n:=ade;simp only[ao,aE,m1,a1,lt,ads,adA];rfl
 ·have m1:fg 3 8 ((m/8-1+1:Nat):Int)=(m:Int):=by rw[eh ade ade];omega
  have lt:¬((m:Int)<n):=ade;simp only[ao,aE,m1,lt,decide_false];show some (T.LR.ex (((m/8-1+1:Nat):Int)))=_;rw[show m/8-1+1=m/8 by omega]
def oP (x:aq) (n:Int):Int:=if fS x=true then(if n<0\/16384<n then 2 else 0) else 8
theorem Vv {x:aq} (h:x.2.1.length<4611686018427387904) (n:Int):Lm x n=some (oP x n):=by
 unfold Lm oP;rw[yA h,a9];simp only[ao,aE,aN,aG,aW,aZ,ax,bc,aA,bg,a9,au,join_some,join_none,ak,aI,aF,ay,aS,adk,adn,adj];grind
theorem JZ {a:Int} (h:a<0):Int.tdiv a 8<=0/\a<=Int.tdiv a 8:=by
 have e:Int.tdiv a 8= -(Int.tdiv (-a) 8):=by rw[Int.neg_tdiv,Int.neg_neg]
 rw[e,Int.tdiv_eq_ediv_of_nonneg ade];omega
theorem yB {x:aq} (h:x.2.1.length<4611686018427387904) (n:Int):T7 x n=some (if oP x n=0 then(max 0 ((n-(x.2.1.length:Int))/8*8),0) else(0,oP x n)):=by
 unfold T7;rw[Th h,a9];show(af (an (bm (oP x n) 0)) _ _)=_
 by_cases h0:oP x n=0
 ·have hl:x.2.1.length<=16384/\0<=n/\n<=16384:=by
   unfold oP fS at h0;simp only[adr,adk] at h0;split at h0
   ·rename_i h1;split at h0
    ·cases h0
    ·omega
   ·cases h0
  obtain⟨l1,l2,l3⟩:=hl;rw[adp h0];simp only[ao,aA,aG,h0,ads,Bool.not_true];show T.O2 8 _=_;rw[T.zf,adi,cD ade ade,ny]
  by_cases hp:0<=n-(x.2.1.length:Int)
  ·rw[a33 hp ade,eh ade ade]
  ·have k:=JZ (a:=n-(x.2.1.length:Int)) ade;rw[T.AZ,Ke ade ade,eh ade ade];refine congrArg some (Prod.ext ?_ rfl);show max 0 _=max 0 _;omega
 ·rw[adq h0];simp only[ao,aA,aG,h0,decide_false];rfl
theorem qP {x:aq} {n:Int} (h:oP x n=0):x.1=65536/\x.2.1.length %8=0/\x.2.1.length<=16384/\0<=n/\n<=16384:=by
 unfold oP fS at h;simp only[adr,adk] at h;split at h
 ·rename_i h1;split at h
  ·cases h
  ·omega
 ·cases h
def jS (x:aq) (k:Nat):aq:=(x.1,x.2.1++List.replicate k 0,())
theorem VJ {x:aq} (h1:x.1=65536) {k:Nat} (h3:x.2.1.length+k<=20000):QM x ((x.2.1.length+k:Nat):Int)=some (jS x k,0):=by
 obtain⟨b,l,u⟩:=x;dsimp only at h1 h3⊢;subst h1;have hc:ko (65536,l,u)=0:=by
  unfold ko;rw[adp];have:OZ 65536=true:=by decide
  simp only[this,adW,adk];omega
 have e:(aw (av (di (bd (l.length+k) 0).length l.length) l) (aH (di (bd (l.length+k) 0).length l.length) (bd (l.length+k) 0)):List Nat)=l++List.replicate k 0:=by
  have m1:di (bd (l.length+k) 0).length l.length=l.length:=by
   show min (List.replicate (l.length+k) 0).length l.length=l.length;rw[adz];omega
  rw[m1];show List.take l.length l++List.drop l.length (List.replicate (l.length+k) 0)=_;rw[List.take_length,List.drop_replicate,ae1]
 unfold QM;rw[Ac,a9,hc];simp only[ao,aE,aN,aG,aW,aZ,ax,bc,aA,bg,a9,au,join_some,join_none,ak,aI,aF,ay,aS,adk,adn,adj,T.d4,adx,e,jS];grind
theorem xk {n:Nat} (h:n<=4096):jC n<=4104/\8<=jC n/\jC n %8=0:=by unfold jC;omega
theorem Vw {x:aq} (h2:x.2.1.length<=16384) {n:Nat} (h:n<=4096):QC x (n:Int)=some (jS x (jC n),65536+x.2.1.length):=by
 obtain⟨b,l,u⟩:=x;dsimp only at h2⊢;obtain⟨k1,k2,k3⟩:=xk h;have e15:SW (b,l,u)=some (b,l,()):=by
  unfold SW;rw[T.dZ,adp (by show 0+l.length<=_;omega)];rfl
 unfold QC;rw[e15,a9];simp only[L_ h,a9];rw[aV (λi=>((i:Int),b,(),l++List.replicate i 0)) (jC n) (b,(),l++List.replicate (jC n) 0) ?_ ade ?_ ?_]
 ·have a1:cP 7 65536 (bF 7 (l.length:Int))=65536+l.length:=by
   rw[lV,show((l.length:Int) %18446744073709551616).toNat=l.length by omega,gS ade]
  rw[a1];rfl
 ·show _=(((0:Nat):Int),b,(),l++[]);rw[adP];rfl
 ·intro i hi;have a1:ab 3 (i:Int) 1=((i+1:Nat):Int):=by rw[c8 ade ade];rfl
  have lt:(i:Int)<(jC n:Int):=ade;have e:(l++List.replicate i 0)++[0]=l++List.replicate (i+1) 0:=by rw[adQ,List.replicate_succ']
  have hl:(l++List.replicate i 0).length+1<=1073741824:=by rw[ado,adz];omega
  simp only[ao,aE,a1,lt,ads,adA,ay,T.dZ,hl,aw,ad_,e];rfl
 ·have lt:¬((jC n:Int)<(jC n:Int)):=by omega
  simp only[ao,aE,lt,decide_false];rfl
def jP (x:aq) (n lim:Int):aq×(Nat×Int):=
 if oP x lim=0 then(if n<0\/4096<n then((0,[],()),0,2) else if lim<(x.2.1.length:Int)+jC n.toNat then((0,[],()),0,18) else(jS x (jC n.toNat),65536+x.2.1.length,0)) else((0,[],()),0,oP x lim)
theorem V8 {x:aq} (h:x.2.1.length<4611686018427387904) (n lim:Int):Qo x n lim=some (jP x n lim):=by
 unfold Qo jP;simp only[Vv h,a9]
 by_cases h0:oP x lim=0
 ·obtain⟨z1,z2,z3,z4,z5⟩:=qP h0;rw[adp h0]
  by_cases hn:n<0\/4096<n
  ·rw[adp hn];simp only[ao,aE,aN,aG,aW,aZ,ax,bc,aA,bg,a9,au,join_some,join_none,ak,aI,aF,ay,aS,adk,adn,adj,h0];grind
  ·rw[adq hn];obtain⟨m,rfl⟩:∃m:Nat,n=m:=⟨n.toNat,ade⟩;have hm:m<=4096:=ade;obtain⟨k1,k2,k3⟩:=xk hm;have e166:QB x (m:Int) lim=some (decide ((x.2.1.length:Int)+jC m<=lim)):=by
    unfold QB;rw[L_ hm,a9,c8 ade ade,aN]
   simp only[e166,Vw z3 hm,a9,adx];simp only[ao,aE,aN,aG,aW,aZ,ax,bc,aA,bg,a9,au,join_some,join_none,ak,aI,aF,ay,aS,adk,adn,adj,h0];grind
 ·rw[adq h0];simp only[ao,aE,aN,aG,aW,aZ,ax,bc,aA,bg,a9,au,join_some,join_none,ak,aI,aF,ay,aS,adk,adn,adj,h0];grind
theorem Vi {x:aq} (h:x.2.1.length<4611686018427387904) (n lim:Int):Qr x n lim=some (jP x n lim):=by
 unfold Qr jP;simp only[yB h,a9]
 by_cases h0:oP x lim=0
 ·obtain⟨z1,z2,z3,z4,z5⟩:=qP h0;rw[adp h0,adp h0]
  by_cases hn:n<0\/4096<n
  ·rw[adp hn];simp only[ao,aE,aN,aG,aW,aZ,ax,bc,aA,bg,a9,au,join_some,join_none,ak,aI,aF,ay,aS,adk,adn,adj];grind
  ·rw[adq hn];obtain⟨m,rfl⟩:∃m:Nat,n=m:=⟨n.toNat,ade⟩;have hm:m<=4096:=ade;obtain⟨k1,k2,k3⟩:=xk hm;have a1:ab 3 x.2.1.length (jC m:Int)=((x.2.1.length+jC m:Nat):Int):=by rw[c8 ade ade];omega
   have a2:cP 7 x.1 (bF 7 (x.2.1.length:Int))=65536+x.2.1.length:=by
    rw[lV,z1,show((x.2.1.length:Int) %18446744073709551616).toNat=x.2.1.length by omega,gS ade]
   have iff:(max 0 ((lim-(x.2.1.length:Int))/8*8)<(jC m:Int))↔(lim<(x.2.1.length:Int)+jC m):=ade;simp only[VI hm,a9,a1,a2,adx]
   by_cases hf:lim<(x.2.1.length:Int)+jC m
   ·simp only[ao,aE,aN,aG,aW,aZ,ax,bc,aA,bg,a9,au,join_some,join_none,ak,aI,aF,ay,aS,adk,adn,adj,iff,hf];grind
   ·rw[VJ (x:=x) (k:=jC m) z1 ade,a9];simp only[ao,aE,aN,aG,aW,aZ,ax,bc,aA,bg,a9,au,join_some,join_none,ak,aI,aF,ay,aS,adk,adn,adj,iff,hf];grind
 ·rw[adq h0,adq h0];simp only[ao,aE,aN,aG,aW,aZ,ax,bc,aA,bg,a9,au,join_some,join_none,ak,aI,aF,ay,aS,adk,adn,adj,h0];grind
theorem Xq {ρ:Type} {n:Nat} {a b:Option ρ} (h:n=0->a=b):T.N' n a b=b:=by
 haveI:=Classical.propDecidable (n=0->a=b)
 rw[T.Xp,adp h]
theorem Lj {l:List Nat} (h:l.length<=1073741824):Li l=some l:=by
 unfold Li;rw[Xq]
 ·simp only[T.dZ,ay,adI,h,adA];rfl
 ·intro h0;have:l=[]:=aeh h0;subst this;rw[T.dZ,adp (by simp[T.aJ])];rfl
theorem gk {n:Nat} (h:n<9223372036854775808):T.dH 3 n=(n:Int):=by
 rw[T.E1,Ke ade ade]
theorem ky {n:Nat} (h:n<18446744073709551616):T.bF 7 (n:Int)=n:=by rw[lV];omega
def wg (x:aq) (a:Nat) (n:Int):Int×Bool:=if a<x.1\/x.2.1.length<a-x.1 then(0,false) else(((a-x.1:Nat):Int),decide (n<=((x.2.1.length-(a-x.1):Nat):Int)))
theorem vE {x:aq} (h:x.2.1.length<4611686018427387904) {a:Nat} (ha:a<18446744073709551616) (n:Int):Ad x a n=some (wg x a n):=by
 unfold Ad wg;rw[ky ade]
 by_cases h1:a<x.1
 ·simp only[ao,aE,aN,aG,aW,aZ,ax,bc,aA,bg,a9,au,join_some,join_none,ak,aI,aF,ay,aS,decide_eq_true_eq,Bool.not_eq_true',decide_eq_false_iff_not,h1];grind
 ·rw[rq ade ha]
  by_cases h2:x.2.1.length<a-x.1
  ·simp only[ao,aE,aN,aG,aW,aZ,ax,bc,aA,bg,a9,au,join_some,join_none,ak,aI,aF,ay,aS,decide_eq_true_eq,Bool.not_eq_true',decide_eq_false_iff_not,h1,h2];grind
  ·rw[gk ade,cD ade ade];simp only[ao,aE,aN,aG,aW,aZ,ax,bc,aA,bg,a9,au,join_some,join_none,ak,aI,aF,ay,aS,adk,adn,adj,h1,h2];have:(x.2.1.length:Int)-((a-x.1:Nat):Int)=((x.2.1.length-(a-x.1):Nat):Int):=ade;rw[this];grind
theorem Cf {x:aq} (h:x.2.1.length<4611686018427387904) {a:Nat} (ha:a<18446744073709551616) (n:Int):Tj x a n=some (if ko x=0 then(if n<0 then(false,2) else((wg x a n).2,0)) else(false,ko x)):=by
 unfold Tj;simp only[Ac,vE h ha,ao,aE,aN,aG,aW,aZ,ax,bc,aA,bg,a9,au,join_some,join_none,ak,aI,aF,ay,aS,adk,adn,adj];grind
def ON (l:List Nat) (k:Nat) (b:List Nat):List Nat:=l.take k++(b++l.drop (k+b.length))
theorem Vj {x:aq} (h:ko x=0) (hl:x.2.1.length<=20000) {k:Nat} {b:List Nat} (hk:k+b.length<=x.2.1.length) (hx:x.1+k<18446744073709551616):Qs x (x.1+k) b=some ((x.1,ON x.2.1 k b,()),0):=by
 have hi:wg x (x.1+k) (b.length:Int)=((k:Int),true):=by
  unfold wg;rw[adi,ae1];congr 1;rw[adk];omega
 unfold Qs;rw[Cf ade ade,vE ade ade,hi];have hn:¬((b.length:Int)<0):=ade;have m1:di (x.2.1.length-k) b.length=b.length:=by show min (x.2.1.length-k) b.length=_;omega
 simp only[h,hn,ao,aE,aN,aG,aW,aZ,ax,bc,aA,bg,a9,au,join_some,join_none,ak,aI,aF,ay,aS,adk,adn,adj,Lj (show x.2.1.length<=1073741824 by omega),T.d4,adx];have e1:av b.length b=b:=List.take_length;have e2:(0:Int)<=(k:Int)/\(k:Int)<=(x.2.1.length:Int):=ade;simp[e1,e2,m1,ON,av,aH,aw]
def l9 (x:aq) (b:List Nat) (lim:Int):aq×(Nat×Int):=
 if(jP x b.length lim).2.2=0 then((x.1,x.2.1++(b++List.replicate (jC b.length-b.length) 0),()),65536+x.2.1.length,0) else((0,[],()),0,(jP x b.length lim).2.2)
theorem ph {x:aq} {n:Nat} {lim:Int} (h:(jP x n lim).2.2=0):oP x lim=0/\n<=4096/\jP x n lim=(jS x (jC n),65536+x.2.1.length,0)/\x.2.1.length+jC n<=lim:=by
 unfold jP at h⊢;split at h
 ·rename_i h0;rw[adp h0];split at h
  ·cases h
  ·rename_i hn;rw[adq hn];split at h
   ·cases h
   ·rename_i hf;rw[adq hf];simp only[adx] at hf⊢;refine⟨h0,ade,?_,ade⟩;simp only[adx]
 ·rename_i h0;exact absurd h h0
theorem OP {l b:List Nat} {n:Nat} (h:b.length<=n):ON (l++List.replicate n 0) l.length b=l++(b++List.replicate (n-b.length) 0):=by
 unfold ON;rw[List.take_left',<-List.drop_drop,List.drop_left',List.drop_replicate]<;>rfl
theorem Pg (n:Nat):n<=jC n:=by unfold jC;omega
theorem O_ {x:aq} {k:Nat} (h:x.1=65536) (hl:x.2.1.length+k<=20000):ko (jS x k)=0:=by
 unfold ko jS;rw[adp];simp only[h,show OZ 65536=true by decide,adW,adk,ado,adz];omega
theorem ZU {x:aq} (h:x.2.1.length<4611686018427387904) (b:List Nat) (lim:Int):ZT x b lim=some (l9 x b lim):=by
 unfold ZT l9;rw[Vi h,a9]
 by_cases h0:(jP x b.length lim).2.2=0
 ·obtain⟨z,hn,ea,hf⟩:=ph h0;obtain⟨z1,z2,z3,z4,z5⟩:=qP z;obtain⟨k1,k2,k3⟩:=xk hn;have hs:=Pg b.length;rw[adp h0,ea];have hl:(jS x (jC b.length)).2.1.length=x.2.1.length+jC b.length:=by
   show(x.2.1++List.replicate _ 0).length=_;rw[ado,adz]
  have hw:=Vj (x:=jS x (jC b.length)) (k:=x.2.1.length) (b:=b) (O_ z1 ade) ade ade (show x.1+_<_ by omega);have hb:(jS x (jC b.length)).1+x.2.1.length=65536+x.2.1.length:=by show x.1+_=_;omega
  rw[hb] at hw;have hg:((jS x (jC b.length)).1,(jS x (jC b.length)).2.1,(jS x (jC b.length)).2.2)=jS x (jC b.length):=rfl;simp only[hg,hw,ao,aE,aN,aG,aW,aZ,ax,bc,aA,bg,a9,au,join_some,join_none,ak,aI,aF,ay,aS,adk,adn,adj];have hp:ON (jS x (jC b.length)).2.1 x.2.1.length b=x.2.1++(b++List.replicate (jC b.length-b.length) 0):=OP hs;rw[hp];rfl
 ·rw[adq h0];simp only[ao,aE,aN,aG,aW,aZ,ax,bc,aA,bg,a9,au,join_some,join_none,ak,aI,aF,ay,aS,adk,adn,adj,h0];rfl
theorem OR {l b:List Nat} {n i:Nat} (hi:i<b.length) (hn:b.length<=n):ae (l++(b.take i++List.replicate (n-i) 0)) (l.length+i) (a8 b i)=l++(b.take (i+1)++List.replicate (n-(i+1)) 0):=by
 have e1:n-i=(n-(i+1))+1:=ade;have Tu:(b.take i).length=i:=by rw[adY];omega
 show List.set _ _ _=_;rw[List.set_append_right _ _ ade,ae1,List.set_append_right _ _ ade,Tu,aep,e1,List.replicate_succ,List.set_cons_zero,bz hi,List.take_succ_eq_append_getElem hi,adQ];rfl
theorem ZG {x:aq} (h:x.2.1.length<4611686018427387904) (b:List Nat) (lim:Int):ZF x b lim=some (l9 x b lim):=by
 unfold ZF l9;rw[V8 h,a9]
 by_cases h0:(jP x b.length lim).2.2=0
 ·obtain⟨z,hn,ea,hf⟩:=ph h0;obtain⟨z1,z2,z3,z4,z5⟩:=qP z;obtain⟨k1,k2,k3⟩:=xk hn;have hs:=Pg b.length;rw[adp h0,ea];simp only[ao,aE,aN,aG,aW,aZ,ax,bc,aA,bg,a9,au,join_some,join_none,ak,aI,aF,ay,aS,adk,adn,adj];rw[aV (λi=>((i:Int),x.1,(),x.2.1++(b.take i++List.replicate (jC b.length-i) 0))) b.length (x.1,(),x.2.1++(b++List.replicate (jC b.length-b.length) 0)) ?_ ade ?_ ?_]
  ·rfl
  ·show _=(((0:Nat):Int),x.1,(),x.2.1++([]++List.replicate (jC b.length-0) 0));rfl
  ·intro i hi;have a1:ab 3 (i:Int) 1=((i+1:Nat):Int):=by rw[c8 ade ade];rfl
   have a2:ab 3 x.2.1.length (i:Int)=((x.2.1.length+i:Nat):Int):=by rw[c8 ade ade];rfl
   have lt:(i:Int)<(b.length:Int):=ade;have hl:x.2.1.length+i<(x.2.1++(b.take i++List.replicate (jC b.length-i) 0)).length:=by
    simp only[ado,adY,adz];omega
   simp only[a1,a2,lt,ads,adA,ak,hi,hl,OR hi hs];rfl
  ·have lt:¬((b.length:Int)<(b.length:Int)):=by omega
   simp only[lt,decide_false,List.take_length];rfl
 ·rw[adq h0];simp only[ao,aE,aN,aG,aW,aZ,ax,bc,aA,bg,a9,au,join_some,join_none,ak,aI,aF,ay,aS,adk,adn,adj,h0];rfl
theorem aU {i:Nat} (h:i<9223372036854775807):ab 3 (i:Int) 1=((i+1:Nat):Int):=by rw[c8 ade ade];rfl
theorem cZ {i n:Nat}:aO (i:Int) (n:Int)=decide (i<n):=by rw[aE];congr 1;rw[eq_iff_iff];omega
theorem ba (n:Nat):aO (n:Int) (n:Int)=false:=by rw[cZ];exact adg
def fY (l:List cy) (n:Int):Bool:= !(decide (n<(l.length:Int)))&&(List.range l.length).all λi=>named (a8 l i).1&&(List.range i).all λj=> !decide ((a8 l j).1=(a8 l i).1)
theorem Mv {l:List cy} (h:l.length<4611686018427387904) (n:Int):IZ l n=some (fY l n):=by
 unfold IZ fY
 by_cases hn:n<(l.length:Int)
 ·simp only[ao,aE,aN,aG,aW,aZ,ax,bc,aA,bg,a9,au,join_some,join_none,ak,aI,aF,ay,aS,decide_eq_true_eq,Bool.not_eq_true',decide_eq_false_iff_not,hn];grind
 ·rw[bA l.length (λi=>named (a8 l i).1&&(List.range i).all λj=> !decide ((a8 l j).1=(a8 l i).1)) false () ade ?_ ?_]
  ·simp only[ao,aE,aN,aG,aW,aZ,ax,bc,aA,bg,a9,au,join_some,join_none,ak,aI,aF,ay,aS,decide_eq_true_eq,Bool.not_eq_true',decide_eq_false_iff_not,hn];grind
  ·intro i hi;simp only[cZ,hi,ao,ads,adA,ak,Mu,a9,aA];rw[bA i (λj=> !decide ((a8 l j).1=(a8 l i).1)) false () ade ?_ ?_]
   ·rw[aU ade];simp only[bh,bT];grind
   ·intro j hj;have hl:j<l.length:=ade;simp only[cZ,hj,hl,hi,ao,ads,adA,ak,bc,aU (show j<9223372036854775807 by omega),bh,bT];grind
   ·simp only[ba,ao,lex];grind
  ·simp only[ba,ao,lex];grind
def Hg (k:Nat) (t:aT) (n i:Int):Bool:=
 if k=1\/k=2\/k=3 then decide (t.2.1=0)&&(decide (t.2.2.1=0)&&decide ((t.2.2.2.1.length:Int)=0))
 else if k=4\/k=7 then decide (0<=t.2.1)&&(decide (t.2.1<n)&&(decide (t.2.2.1=0)&&decide ((t.2.2.2.1.length:Int)=0)))
 else if k=6 then decide (0<=t.2.1)&&(decide (t.2.1<i)&&(decide (1<=t.2.2.1)&&(decide (t.2.2.1<=16)&&decide ((t.2.2.2.1.length:Int)=0))))
 else if k=5 then(List.range t.2.2.2.1.length).all (λj=> !(decide ((a8 t.2.2.2.1 j).2.1<0)||decide (i<=(a8 t.2.2.2.1 j).2.1)))&&(decide (t.2.1=0)&&(decide (t.2.2.1=0)&&(decide (0<(t.2.2.2.1.length:Int))&&fY t.2.2.2.1 8)))
 else false
def fb (l:List aT) (i:Nat):Bool:=Hg (a8 l i).1 (a8 l i) l.length i
theorem Wb {l:List aT} {i:Nat} (hi:i<l.length) (h:(a8 l i).2.2.2.1.length<4611686018427387904):R5 l (i:Int)=some (fb l i):=by
 unfold R5 fb Hg;simp only[ak,hi,adA];generalize a8 l i=t at h⊢;rw[bA t.2.2.2.1.length (λj=> !(decide ((a8 t.2.2.2.1 j).2.1<0)||decide ((i:Int)<=(a8 t.2.2.2.1 j).2.1))) false () ade ?_ ?_]
 ·simp only[ao,aE,aN,aG,aW,aZ,ax,bc,aA,bg,a9,au,join_some,join_none,ak,aI,aF,ay,aS,adk,adn,adj,Mv h];grind
 ·intro j hj;simp only[cZ,hj,ao,ads,adA,ak,aE,aN,aU (show j<9223372036854775807 by omega),bh,bT];grind
 ·simp only[ba,ao,lex];grind
theorem bE {ρ:Type} {n:Nat} {z:Int} (h0:0<=z) (h1:z<n) (k:Nat->Option ρ):T.ai n z k=k z.toNat:=by
 obtain⟨m,rfl⟩:∃m:Nat,z=m:=⟨z.toNat,ade⟩;rw[ak,adh];rfl
structure UB (n i:Nat) (t:aT):Prop where
 p:t.1=4\/t.1=7->0<=t.2.1/\t.2.1<n
 a:t.1=6->0<=t.2.1/\t.2.1<i/\1<=t.2.2.1/\t.2.2.1<=16
 s:t.2.2.2.1.length≠0->t.1=5
 n:t.2.2.2.1.length<=8
 f:∀j,j<t.2.2.2.1.length->0<=(a8 t.2.2.2.1 j).2.1/\(a8 t.2.2.2.1 j).2.1<i
 z:¬(t.1=4\/t.1=6\/t.1=7)->t.2.1=0
 c:t.1≠6->t.2.2.1=0
 k:1<=t.1/\t.1<=7
 e:t.1=5->t.2.2.2.1.length≠0
theorem dq {l:List aT} {i:Nat} (h:fb l i=true):UB l.length i (a8 l i):=by
 unfold fb Hg at h;generalize a8 l i=t at h⊢;split at h
 ·rename_i hk;simp only[adr,adk] at h;exact⟨λ_=>ade,λ_=>ade,λ_=>ade,ade,λj hj=>ade,λ_=>ade,λ_=>ade,ade,λ_=>ade⟩
 ·split at h
  ·simp only[adr,adk] at h;exact⟨λ_=>ade,λ_=>ade,λ_=>ade,ade,λj hj=>ade,λ_=>ade,λ_=>ade,ade,λ_=>ade⟩
  ·split at h
   ·simp only[adr,adk] at h;exact⟨λ_=>ade,λ_=>ade,λ_=>ade,ade,λj hj=>ade,λ_=>ade,λ_=>ade,ade,λ_=>ade⟩
   ·split at h
    ·simp only[adr,adk,adE,adL,fY,adn,adj,ad'] at h;exact⟨λ_=>ade,λ_=>ade,λ_=>ade,ade,λj hj=>by have:=h.1 j hj;omega,λ_=>ade,λ_=>ade,ade,λ_=>ade⟩
    ·cases h
def Kc (l:List Int):Prop:=∀j,0<=a8 l j/\a8 l j<=5001
def rB (c:List Int) (l:List cy):Nat->Int
 |0=>0
 |k+1=>rB c l k+a8 c (a8 l k).2.1.toNat
theorem rC {c:List Int} (h:Kc c) (l:List cy):∀k,0<=rB c l k/\rB c l k<=5001*k
 |0=>by simp[rB]
 |k+1=>by
  have:=rC h l k;have:=h (a8 l k).2.1.toNat;simp only[rB];omega
def pw (p c:List Int) (t:aT):Int:=if t.1=4 then a8 p t.2.1.toNat else if t.1=7 then 16*a8 p t.2.1.toNat else if t.1=6 then t.2.2.1*a8 c t.2.1.toNat else 0
theorem uF {p c:List Int} (hp:Kc p) (hc:Kc c) {n i:Nat} {t:aT} (h:UB n i t):0<=pw p c t/\pw p c t<=80016:=by
 unfold pw;have h1:=hp t.2.1.toNat;have h2:=hc t.2.1.toNat;split
 ·omega
 ·split
  ·omega
  ·split
   ·rename_i h6;obtain⟨_,_,h3,h4⟩:=h.a h6;constructor
    ·exact Int.mul_nonneg ade ade
    ·have:=Int.mul_le_mul h4 h2.2 h2.1 ade;omega
   ·omega
def YJ (p c:List Int) (t:aT):Int:=min (1+pw p c t+rB c t.2.2.2.1 t.2.2.2.1.length) 5001
def wL (p:List Int) (l:List aT):Nat->List Int
 |0=>[]
 |i+1=>wL p l i++[YJ p (wL p l i) (a8 l i)]
theorem Bz (p:List Int) (l:List aT):∀i,(wL p l i).length=i
 |0=>rfl
 |i+1=>by rw[wL,ado,Bz p l i];rfl
theorem dI {α:Type} [Zr α] {l m:List α} {i:Nat} (h:i<l.length):a8 (l++m) i=a8 l i:=by
 rw[bz (by rw[ado];omega),bz h,List.getElem_append_left h]
theorem lO {α:Type} [Zr α] {l:List α} {x:α}:a8 (l++[x]) l.length=x:=by
 rw[bz (by rw[ado];simp),List.getElem_append_right (adw _)];simp
theorem dJ {α:Type} [Zr α] {l:List α} {i:Nat} (h:l.length<=i):a8 l i=Zr.z:=by
 show l.getD i Zr.z=_;rw[adG,List.getElem?_eq_none h];rfl
theorem S7 {l:List Int} {x:Int} (h:Kc l) (h0:0<=x) (h1:x<=5001):Kc (l++[x]):=by
 intro j
 by_cases hj:j<l.length
 ·rw[dI hj];exact h j
 ·by_cases he:j=l.length
  ·rw[he,lO];omega
  ·rw[dJ (by rw[ado];simp;omega)];decide
theorem S8:Kc []:=λj=>by rw[dJ (ae5 _)];decide
theorem H_ {p:List Int} (hp:Kc p) {l:List aT}:∀i,(∀j,j<i->fb l j=true)->Kc (wL p l i)
 |0,_=>S8
 |i+1,h=>by
  have ih:=H_ hp i (λj hj=>h j ade);have ho:=dq (h i ade);have h1:=uF hp ih ho;have h2:=rC ih (a8 l i).2.2.2.1 (a8 l i).2.2.2.1.length;refine S7 ih ?_ ?_<;>unfold YJ<;>omega
def WS (l:List aT):Nat->List Int
 |0=>List.replicate l.length 0
 |r+1=>wL (WS l r) l l.length
theorem pg (l:List aT):∀r,(WS l r).length=l.length
 |0=>adz
 |r+1=>Bz _ _ _
theorem yq {l:List aT} (h:∀j,j<l.length->fb l j=true):∀r,Kc (WS l r)
 |0=>λj=>by
  by_cases hj:j<(WS l 0).length
  ·rw[bz hj];simp only[WS,List.getElem_replicate];decide
  ·rw[dJ ade];decide
 |r+1=>H_ (yq h r) _ h
theorem jl {x y:Int} (h:0<=x/\x<=1000000000000) (h':0<=y/\y<=1000000000000):ab 3 x y=x+y:=c8 ade ade
theorem KO {ρ:Type} {p c c':List Int} {t:aT} {n i:Nat} (h:UB n i t) (hp:Kc p) (hc:Kc c) (x_:p.length=n) (jq:c'.length=n) (fe:i<=n) (WR:∀j,j<i->a8 c' j=a8 c j) (K:Int->Option ρ):
 (join Int (af (aR t.1 4) (λ_=>(ai p.length t.2.1 (λv5=>(some (ab 3 1 (a8 p v5)))))) λ_=>(af (aR t.1 7) (λ_=>(ai p.length t.2.1 (λv5=>(some (ab 3 1 (fg 3 16 (a8 p v5))))))) λ_=>(af (aR t.1 6) (λ_=>(ai c'.length t.2.1 (λv5=>(some (ab 3 1 (fg 3 t.2.2.1 (a8 c' v5))))))) λ_=>(some 1)))) K)=K (1+pw p c t):=by
 have hb:=uF hp hc h;have h1:=hp t.2.1.toNat;unfold pw at hb⊢;simp only[ao,ax,adk]
 by_cases k4:t.1=4
 ·rw[adp k4] at hb⊢;rw[adp k4];rw[bE (h.p (Or.inl k4)).1 (by rw[x_];exact(h.p (Or.inl k4)).2),jl ade ade];rfl
 ·rw[adq k4] at hb⊢;rw[adq k4]
  by_cases k7:t.1=7
  ·rw[adp k7] at hb⊢;rw[adp k7];rw[bE (h.p (Or.inr k7)).1 (by rw[x_];exact(h.p (Or.inr k7)).2),eh ade ade,jl ade ade];rfl
  ·rw[adq k7] at hb⊢;rw[adq k7]
   by_cases k6:t.1=6
   ·rw[adp k6] at hb⊢;rw[adp k6];obtain⟨a1,a2,a3,a4⟩:=h.a k6;rw[bE a1 ade,WR _ ade,eh ade ade,jl ade ade];rfl
   ·rw[adq k6,adq k6];rfl
theorem Dj {l:List Int} {n i:Nat} (hl:l.length=i) (hi:i<n) (x:Int):ae (l++List.replicate (n-i) 0) i x=(l++[x])++List.replicate (n-(i+1)) 0:=by
 have e1:n-i=(n-(i+1))+1:=ade;show List.set _ _ _=_;rw[List.set_append_right _ _ ade,hl,aep,e1,List.replicate_succ,List.set_cons_zero,adQ];rfl
theorem W7 {l:List aT} (hl:l.length<=32) (h:∀j,j<l.length->fb l j=true):R3 l=some (WS l 4):=by
 have hr:∀{k:List Int->Option (List Int)},T.b_ 1073741824 l.length (λv=>k (bd v 0))=k (List.replicate l.length 0):=by
  intro k;rw[T.d4,adh,adx];rfl
 have hr':∀{k:Nat->Option (T.LR (Int×List Int) (List Int) (List Int))},T.b_ 1073741824 l.length k=k l.length:=by
  intro k;rw[T.d4,adh,adx]
 have K9:∀{k:Nat->Option (List Int)},T.b_ 1073741824 l.length k=k l.length:=by
  intro k;rw[T.d4,adh,adx]
 unfold R3;simp only[hr',K9];rw[aV (λr=>((r:Int),WS l r)) 4 (WS l 4) ?_ ade ?_ ?_]
 ·rfl
 ·intro r hr;have lt:aO (r:Int) 4=true:=by rw[aE];exact adf
  simp only[lt,ao,adA];rw[aV (λi=>((i:Int),wL (WS l r) l i++List.replicate (l.length-i) 0)) l.length (WS l (r+1)) ?_ ade ?_ ?_]
  ·rw[aU ade];rfl
  ·rfl
  ·intro i hi;have ho:=dq (h i hi);have hc:=H_ (yq h r) i (λj hj=>h j ade);have hlen:=Bz (WS l r) l i;have n_:(wL (WS l r) l i++List.replicate (l.length-i) 0).length=l.length:=by rw[ado,adz,hlen];omega
   have WR:∀j,j<i->a8 (wL (WS l r) l i++List.replicate (l.length-i) 0) j=a8 (wL (WS l r) l i) j:=λj hj=>dI ade
   have hx:=uF (yq h r) hc ho;simp only[cZ,hi,ao,ads,adA,ak];have hP:=λK=>KO (ρ:=T.LR (Int×List Int) (List Int) (List Int)) ho (yq h r) hc (pg l r) n_ ade WR K
   simp only[ao] at hP;rw[hP];have hw:wL (WS l r) l (i+1)=wL (WS l r) l i++[YJ (WS l r) (wL (WS l r) l i) (a8 l i)]:=rfl;rw[hw];generalize a8 l i=t at ho hx⊢;generalize wL (WS l r) l i=c at hc hlen n_ WR hx⊢;rw[aV (λk=>(1+pw (WS l r) c t+rB c t.2.2.2.1 k,(k:Int))) t.2.2.2.1.length (1+pw (WS l r) c t+rB c t.2.2.2.1 t.2.2.2.1.length) ?_ (by have:=ho.n;omega) ?_ ?_]
   ·have hi':i<(c++List.replicate (l.length-i) 0).length:=by rw[n_];exact hi
    simp only[ak,hi',adA,aU (show i<9223372036854775807 by omega),l6];rw[Dj hlen hi];rfl
   ·show _=(1+pw (WS l r) c t+0,((0:Nat):Int));rw[Int.add_zero];rfl
   ·intro k hk;obtain⟨b1,b2⟩:=ho.f k hk;have b3:=rC hc t.2.2.2.1 k;have b4:=hc (a8 t.2.2.2.1 k).2.1.toNat;have b5:=ho.n;simp only[cZ,hk,ads,adA,ak,aU (show k<9223372036854775807 by omega)];rw[bE b1 ade,WR _ ade,jl ade ade];simp only[rB,Int.add_assoc];rfl
   ·simp only[ba];rfl
  ·simp only[ba,ao,aep,List.replicate_zero,adP];rfl
 ·have lt:aO ((4:Nat):Int) 4=false:=by rw[aE];exact adg
  simp only[lt,ao];rfl
def mJ (l:List cy):Nat->List Int
 |0=>[]
 |k+1=>mJ l k++[(a8 l k).2.1]
theorem dE (l:List cy):∀k,(mJ l k).length=k
 |0=>rfl
 |k+1=>by rw[mJ,ado,dE l k];rfl
theorem sy (l:List cy):∀{k j},j<k->a8 (mJ l k) j=(a8 l j).2.1
 |k+1,j,h=>by
  by_cases hj:j<k
  ·rw[mJ,dI (by rw[dE];exact hj),sy l hj]
  ·have:j=(mJ l k).length:=by rw[dE];omega
   rw[mJ]
   conv=>lhs;rw[this]
   rw[lO];rw[dE] at this;rw[this]
theorem aD {ρ:Type} {c:Bool} {a b:Unit->Option ρ} (h:c=true):T.af c a b=a ():=by rw[ao,adp h]
theorem aC {ρ:Type} {c:Bool} {a b:Unit->Option ρ} (h:c=false):T.af c a b=b ():=by rw[h];rfl
def l8 (t:aT):List Int:=(if t.1=6 then[t.2.1] else[])++mJ t.2.2.2.1 t.2.2.2.1.length
theorem aY {ρ:Type} {n:Nat} (h:n<=1073741824) (k:Option ρ):T.bj n k=k:=by rw[T.dZ,adp h]
theorem MN {t:aT} (h:t.2.2.2.1.length<=1000):ED t=some (l8 t):=by
 have main:∀a:List Int,a.length<=1->loop (Int×List Int) (List Int) (List Int) (λv1=>(af (aO v1.1 t.2.2.2.1.length) (λ_=>(ai t.2.2.2.1.length v1.1 (λv2=>(bj (aJ v1.2.length 1) (bh ((ab 3 v1.1 1),(aw v1.2 [(a8 t.2.2.2.1 v2).2.1]))))))) λ_=>(lex v1.2))) (0,a) (λv1=>(some v1)) (λv1=>none)=some (a++mJ t.2.2.2.1 t.2.2.2.1.length):=by
  intro a ha;rw[aV (λk=>((k:Int),a++mJ t.2.2.2.1 k)) t.2.2.2.1.length (a++mJ t.2.2.2.1 t.2.2.2.1.length) ?_ ade ?_ ?_]
  ·show _=(((0:Nat):Int),a++[]);rw[adP];rfl
  ·intro k hk;have hl:(a++mJ t.2.2.2.1 k).length+1<=1073741824:=by rw[ado,dE];omega
   simp only[cZ,hk,ads,adA,ak,ao,aU (show k<9223372036854775807 by omega),ay,aY hl,mJ,aw,ad_,adQ];rfl
  ·simp only[ba,ao];rfl
 unfold ED l8
 by_cases h6:t.1=6
 ·rw[adp h6,aD (by rw[ax];exact adm h6),aY (by decide),join_some];exact main [t.2.1] (by simp)
 ·rw[adq h6,aC (by rw[ax];exact adl h6),join_some];exact main [] (by simp)
theorem a8p {x:Int} (h:0<=x/\x<=5001):fg 3 1 x=x:=by rw[eh ade ade];omega
theorem DE {l:List aT} (hl:l.length<=32) (h:∀j,j<l.length->fb l j=true) {x1:Int} {p q:List Int} (hq:Kc q) (hql:q.length=l.length) (hp:0<x1->p=q) (hz:¬0<x1->∀j,a8 q j=0):
 (loop (Int×(List Int)) (List Int) (List Int) (λv1=>(af (aO v1.1 l.length) (λ_=>(ai l.length v1.1 (λv2=>(bind (ED (a8 l v2)) (λv3=>(loop (Int×Int) Int (List Int) (λv4=>(af (aO v4.2 v3.length) (λ_=>(ai l.length v1.1 (λv5=>(join Int (af (aR (a8 l v5).1 6) (λ_=>(ai l.length v1.1 (λv6=>(some (a8 l v6).2.2.1)))) λ_=>(some 1)) (λv6=>(ai v3.length v4.2 (λv7=>(ai v1.2.length (a8 v3 v7) (λv8=>(bh ((jX (ab 3 v4.1 (fg 3 v6 (a8 v1.2 v8))) 5001),(ab 3 v4.2 1)))))))))))) λ_=>(lex v4.1))) (1,0) (λv4=>(join Bool (af (aO 0 x1) (λ_=>(ai l.length v1.1 (λv5=>(some (aR (a8 l v5).1 4))))) λ_=>(some false)) (λv5=>(join Int (af v5 (λ_=>(ai l.length v1.1 (λv6=>(ai p.length (a8 l v6).2.1 (λv7=>(some (jX (ab 3 v4 (a8 p v7)) 5001))))))) λ_=>(some v4)) (λv6=>(join Bool (af (aO 0 x1) (λ_=>(ai l.length v1.1 (λv7=>(some (aR (a8 l v7).1 7))))) λ_=>(some false)) (λv7=>(join Int (af v7 (λ_=>(ai l.length v1.1 (λv8=>(ai p.length (a8 l v8).2.1 (λv9=>(some (jX (ab 3 v6 (fg 3 16 (a8 p v9))) 5001))))))) λ_=>(some v6)) (λv8=>(bj (aJ v1.2.length 1) (bh ((ab 3 v1.1 1),(aw v1.2 [v8]))))))))))))) (λv4=>none))))))) λ_=>(lex v1.2))) (0,[]) (λv1=>(some v1)) (λv1=>none))=some (wL q l l.length):=by
 rw[aV (λi=>((i:Int),wL q l i)) l.length (wL q l l.length) ?_ ade ?_ ?_]
 ·rfl
 ·intro i hi;have ho:=dq (h i hi);have hc:=H_ hq i (λj hj=>h j ade);have hlen:=Bz q l i;have hx:=uF hq hc ho;have hw:wL q l (i+1)=wL q l i++[YJ q (wL q l i) (a8 l i)]:=rfl;simp only[cZ,hi,ao,ads,adA,ak,MN (t:=a8 l i) (by have:=ho.n;omega),a9];rw[hw];generalize a8 l i=t at ho hx⊢;generalize wL q l i=c at hc hlen hx⊢;have hs:=rC hc t.2.2.2.1 t.2.2.2.1.length;have hn:=ho.n;have b1:=hq t.2.1.toNat;have b2:=hc t.2.1.toNat;have fin:∀v:Int,v=min (1+(if t.1=6 then pw q c t else 0)+rB c t.2.2.2.1 t.2.2.2.1.length) 5001->
   (join Bool (if aO 0 x1=true then some (aR t.1 4) else some false) (λv5=>(join Int (if v5=true then(ai p.length t.2.1 (λv7=>(some (jX (ab 3 v (a8 p v7)) 5001)))) else(some v)) (λv6=>(join Bool (if aO 0 x1=true then some (aR t.1 7) else some false) (λv7=>(join Int (if v7=true then(ai p.length t.2.1 (λv9=>(some (jX (ab 3 v6 (fg 3 16 (a8 p v9))) 5001)))) else(some v6)) (λv8=>(bj (aJ c.length 1) (bh (Q:=List Int) (E:=List Int) ((ab 3 (i:Int) 1),(aw c [v8]))))))))))))
     =some (.ok (((i+1:Nat):Int),c++[YJ q c t])):=by
   intro v hv;have cap:∀{y:Option (T.LR (Int×List Int) (List Int) (List Int))},T.bj (aJ c.length 1) y=y:=λ{y}=>aY (by rw[ay];omega) y
   simp only[cap,aU (show i<9223372036854775807 by omega),aE,ax,l6];unfold YJ pw at*
   by_cases h0:0<x1
   ·have e:=hp h0;subst e
    by_cases k4:t.1=4
    ·obtain⟨p1,p2⟩:=ho.p (Or.inl k4);have n6:¬t.1=6:=ade;have n7:¬t.1=7:=ade;simp only[h0,k4,adA,ads,join_some,show¬(4=6) by omega,show¬(4=7) by omega,ae7,decide_false] at hv⊢;rw[bE p1 ade,jl ade ade,join_some];simp only[aeb,ae7,join_some,bh,aw,ad_];congr 5;omega
    ·by_cases k7:t.1=7
     ·obtain⟨p1,p2⟩:=ho.p (Or.inr k7);simp only[h0,k7,adA,ads,join_some,show¬(7=6) by omega,show¬(7=4) by omega,ae7,decide_false] at hv⊢;simp only[aeb,ae7,join_some,adA];rw[bE p1 ade,eh ade ade,jl ade ade,join_some];simp only[bh,aw,ad_];congr 5;omega
     ·simp only[h0,k4,k7,adA,ads,join_some,ae7,decide_false,aeb] at hv⊢;simp only[bh,aw,ad_];congr 5
      by_cases k6:t.1=6
      ·simp only[k6,adA] at hv⊢;omega
      ·simp only[k6,ae7] at hv⊢;omega
   ·have z:=hz h0 t.2.1.toNat;simp only[h0,adA,ads,join_some,ae7,decide_false,aeb] at hv⊢;simp only[bh,aw,ad_,z];congr 5
    by_cases k6:t.1=6
    ·simp only[k6,adA,show¬(6=4) by omega,show¬(6=7) by omega,ae7] at hv⊢;omega
    ·simp only[k6,ae7] at hv⊢;split<;>(try split)<;>omega
  by_cases k6:t.1=6
  ·have n0:t.2.2.2.1.length=0:=by
    by_cases n0:t.2.2.2.1.length=0
    ·exact n0
    ·have:=ho.s n0;omega
   obtain⟨a1,a2,a3,a4⟩:=ho.a k6;have x_:l8 t=[t.2.1]:=by unfold l8;rw[adp k6,n0];rfl
   rw[x_];have hw6:pw q c t=t.2.2.1*a8 c t.2.1.toNat:=by unfold pw;rw[adi,adi,adp k6]
   rw[aV (λk=>(if k=0 then 1 else min (1+pw q c t) 5001,(k:Int))) 1 (min (1+pw q c t) 5001) ?_ ade ?_ ?_];rotate_left
   ·rfl
   rotate_left 2
   ·refine fin _ ?_;rw[adp k6,n0];simp only[rB];omega
   ·intro k hk;have hk:k=0:=ade;subst hk;simp only[k6,ax,ads,adA,join_some];have g0:aO ((0:Nat):Int) (([t.2.1].length:Nat):Int)=true:=by rw[aE];rfl
    have g1:a8 [t.2.1] 0=t.2.1:=rfl;have g2:(0:Nat)<[t.2.1].length:=by simp
    rw[g0];simp only[ak,g2,g1,adA];rw[bE a1 ade,eh ade ade,<-hw6,jl ade ade,l6,aU ade];rfl
   ·have g0:aO ((1:Nat):Int) (([t.2.1].length:Nat):Int)=false:=by rw[aE];rfl
    simp only[g0];rfl
  ·have x_:l8 t=mJ t.2.2.2.1 t.2.2.2.1.length:=by unfold l8;rw[adq k6];rfl
   rw[x_,dE];rw[aV (λk=>(min (1+rB c t.2.2.2.1 k) 5001,(k:Int))) t.2.2.2.1.length (min (1+rB c t.2.2.2.1 t.2.2.2.1.length) 5001) ?_ ade ?_ ?_];rotate_left
   ·rfl
   rotate_left 2
   ·refine fin _ ?_;rw[adq k6];omega
   ·intro k hk;obtain⟨f1,f2⟩:=ho.f k hk;have b3:=rC hc t.2.2.2.1 k;have b4:=hc (a8 t.2.2.2.1 k).2.1.toNat;simp only[k6,ax,decide_false,aeb,ae7,join_some,cZ,hk,ads,adA,ak,aU (show k<9223372036854775807 by omega),sy _ hk];rw[bE f1 ade,a8p b4,jl ade ade,l6];simp only[rB,bh];congr 3;omega
   ·simp only[ba];rfl
 ·simp only[ba,ao];rfl
theorem Mt {l:List aT} (hl:l.length<=32) (h:∀j,j<l.length->fb l j=true):∀(r n:Nat),r<n->r<100->IX n l (r:Int)=some (WS l (r+1))
 |0,n+1,_,_=>by
  have lt:aO 0 ((0:Nat):Int)=false:=by rw[aE];rfl
  unfold IX;dsimp only;refine(aC lt).trans ?_;have hz:∀j,a8 (WS l 0) j=0:=λj=>by
   by_cases hj:j<(WS l 0).length
   ·rw[bz hj];simp only[WS,List.getElem_replicate]
   ·rw[dJ ade];rfl
  exact DE hl h (x1:=((0:Nat):Int)) (p:=[]) (yq h 0) (pg l 0) (λh=>absurd h ade) (λ_=>hz)
 |r+1,n+1,hn,hr=>by
  have lt:aO 0 ((r+1:Nat):Int)=true:=by rw[aE];exact adf
  have sb:bq 3 ((r+1:Nat):Int) 1=(r:Int):=by rw[cD ade ade];omega
  unfold IX;dsimp only;refine(aD lt).trans ?_;rw[sb,Mt hl h r n ade ade,a9];exact DE hl h (x1:=((r+1:Nat):Int)) (p:=WS l (r+1)) (yq h (r+1)) (pg l (r+1)) (λ_=>rfl) (λh=>absurd h ade)
theorem gE {α:Type} [Zr α] {l:List α} {x:α} {k:Nat} (h:l.length=k):a8 (l++[x]) k=x:=by subst h;exact lO
theorem a7v (n:Nat):Nat.xor n (Nat.land n 7)=n/8*8:=by
 show n^^^(n&&&7)=_;apply Nat.eq_of_testBit_eq;intro i;rw[Nat.testBit_xor,Nat.testBit_and,show(7:Nat)=2^3-1 from rfl,Nat.testBit_two_pow_sub_one,show(8:Nat)=2^3 from rfl,Nat.testBit_mul_two_pow,Nat.testBit_div_two_pow]
 by_cases h:i<3
 ·have:¬3<=i:=by omega
  simp[h,this]
 ·have h3:3<=i:=by omega
  simp only[h,h3,decide_false,ads,Bool.and_false,Bool.xor_false,adW];congr 1;omega
theorem SH {n:Nat} (h:n<18446744073709551616):mM 3 (n:Int)=n:=by
 show((n:Int) %18446744073709551616).toNat=n;omega
def mQ (x a:Int):Int:=(x+a-1)/a*a
theorem DZ {x a:Int} (hx:0<=x/\x<=1000000000000) (ha:a=1\/a=8):A3 3 (bq 3 (ab 3 x a) 1) (bq 3 a 1)=mQ x a:=by
 obtain⟨n,rfl⟩:∃n:Nat,x=n:=⟨x.toNat,ade⟩;unfold mQ;rcases ha with rfl|rfl
 ·rw[c8 ade ade,cD ade ade,cD ade ade,T.DY,show(n:Int)+1-1=((n:Nat):Int) by omega,SH ade,show((1:Int)-1)=((0:Nat):Int) from rfl,SH ade];rw[show Nat.land n 0=0 from Nat.and_zero n,show Nat.xor n 0=n from Nat.xor_zero n,Ke ade ade];omega
 ·rw[c8 ade ade,cD ade ade,cD ade ade,T.DY,show(n:Int)+8-1=((n+7:Nat):Int) by omega,SH ade,show((8:Int)-1)=((7:Nat):Int) from rfl,SH ade,a7v,Ke ade ade];omega
def cR (cap:Int) (c:List (Int×Int)) (fs:List cy):Nat->Int×Int×List Int
 |0=>(0,1,[])
 |k+1=>(min cap (mQ (cR cap c fs k).1 (a8 c (a8 fs k).2.1.toNat).2+(a8 c (a8 fs k).2.1.toNat).1),max (cR cap c fs k).2.1 (a8 c (a8 fs k).2.1.toNat).2,(cR cap c fs k).2.2++[mQ (cR cap c fs k).1 (a8 c (a8 fs k).2.1.toNat).2])
def Az (cap:Int) (c:List (Int×Int)) (fs:List cy):Int×Int:=(min cap (mQ (cR cap c fs fs.length).1 (cR cap c fs fs.length).2.1),(cR cap c fs fs.length).2.1)
def oT (cap:Int) (c:List (Int×Int)) (t:aT):Int×Int:=
 if t.1=1 then(1,1) else if t.1=3 then(16,8) else if t.1=7 then(24,8)
 else if t.1=6 then(min cap (t.2.2.1*(a8 c t.2.1.toNat).1),(a8 c t.2.1.toNat).2)
 else if t.1=5 then Az cap c t.2.2.2.1 else(8,8)
def dK (cap:Int) (l:List aT):Nat->List (Int×Int)
 |0=>[]
 |i+1=>dK cap l i++[oT cap (dK cap l i) (a8 l i)]
theorem cN (cap:Int) (l:List aT):∀i,(dK cap l i).length=i
 |0=>rfl
 |i+1=>by rw[dK,ado,cN cap l i];rfl
def PU (s:Int×Int):Prop:=0<=s.1/\s.1<=1048576/\(s.2=1\/s.2=8)
def qW (c:List (Int×Int)):Prop:=∀j,j<c.length->PU (a8 c j)
def Hz (n:Nat) (fs:List cy):Prop:=∀k,k<fs.length->0<=(a8 fs k).2.1/\(a8 fs k).2.1<n
theorem fQ (cap:Int) (c:List (Int×Int)) (fs:List cy):∀k,(cR cap c fs k).2.2.length=k
 |0=>rfl
 |k+1=>by rw[cR,ado,fQ cap c fs k];rfl
theorem iK {x a:Int} (hx:0<=x) (ha:a=1\/a=8):x<=mQ x a/\mQ x a<=x+7:=by
 unfold mQ;rcases ha with rfl|rfl<;>omega
theorem eW {cap:Int} (jT:0<=cap/\cap<=1048576) {c:List (Int×Int)} (hc:qW c) {fs:List cy} (hf:Hz c.length fs):∀k,k<=fs.length->0<=(cR cap c fs k).1/\(cR cap c fs k).1<=cap/\((cR cap c fs k).2.1=1\/(cR cap c fs k).2.1=8)
 |0,_=>⟨Int.le_refl _,jT.1,Or.inl rfl⟩
 |k+1,h=>by
  obtain⟨i1,i2,i3⟩:=eW jT hc hf k ade;obtain⟨f1,f2⟩:=hf k ade;obtain⟨s1,s2,s3⟩:=hc (a8 fs k).2.1.toNat ade;have:=iK i1 s3;simp only[cR];omega
theorem RV {cap:Int} (jT:0<=cap/\cap<=1048576) {c:List (Int×Int)} (hc:qW c) {fs:List cy} (hf:Hz c.length fs):PU (Az cap c fs):=by
 obtain⟨i1,i2,i3⟩:=eW jT hc hf fs.length (adw _);have:=iK i1 i3;unfold PU Az;refine⟨?_,?_,i3⟩<;>dsimp only<;>omega
theorem Sz {cap:Int} (jT:1000<=cap/\cap<=1048576) {c:List (Int×Int)} (hc:qW c) {t:aT} {n:Nat} (ho:UB n c.length t):PU (oT cap c t):=by
 unfold oT;split
 ·unfold PU;dsimp only;omega
 ·split
  ·unfold PU;dsimp only;omega
  ·split
   ·unfold PU;dsimp only;omega
   ·split
    ·rename_i h6;obtain⟨a1,a2,a3,a4⟩:=ho.a h6;obtain⟨s1,s2,s3⟩:=hc t.2.1.toNat ade;have:=Int.mul_nonneg (show 0<=t.2.2.1 by omega) s1;unfold PU;refine⟨?_,?_,s3⟩<;>dsimp only<;>omega
    ·split
     ·exact RV ade hc (λk hk=>ho.f k hk)
     ·unfold PU;dsimp only;omega
theorem Oq {c:List (Int×Int)} {s:Int×Int} (hc:qW c) (hs:PU s):qW (c++[s]):=by
 intro j hj;rw[ado] at hj
 by_cases h:j<c.length
 ·rw[dI h];exact hc j h
 ·have:j=c.length:=by simp at hj;omega
  rw[this,lO];exact hs
theorem gn {cap:Int} (jT:1000<=cap/\cap<=1048576) {l:List aT}:∀i,(∀j,j<i->fb l j=true)->qW (dK cap l i)
 |0,_=>λj hj=>absurd hj (adS _)
 |i+1,h=>by
  refine Oq (gn jT i λj hj=>h j ade) (Sz jT (gn jT i λj hj=>h j ade) (n:=l.length) ?_);rw[cN];exact dq (h i ade)
abbrev P_:Type:=Int×(Int×Unit)
def ext (s:Int×Int):P_:=(s.1,s.2,())
theorem Ej {c:List (Int×Int)} (hc:qW c) {fs:List cy} (hn:fs.length<=1000) (hf:Hz c.length fs) {q:List P_} (hq:c.length<=q.length) (Yt:∀j,j<c.length->a8 q j=ext (a8 c j)):
 LC q fs=some ((cR 1048576 c fs fs.length).2.2,mQ (cR 1048576 c fs fs.length).1 (cR 1048576 c fs fs.length).2.1,(cR 1048576 c fs fs.length).2.1,()):=by
 have hb:∀{k:Nat->Option ((List Int)×(Int×(Int×Unit)))},T.b_ 1073741824 fs.length k=k fs.length:=by
  intro k;rw[T.d4,adh,adx]
 unfold LC;rw[hb];rw[aV (λi=>((i:Int),(cR 1048576 c fs i).1,(cR 1048576 c fs i).2.1,(cR 1048576 c fs i).2.2++List.replicate (fs.length-i) 0)) fs.length (cR 1048576 c fs fs.length) ?_ ade ?_ ?_]
 ·obtain⟨i1,i2,i3⟩:=eW (cap:=1048576) ade hc hf fs.length (adw _);rw[DZ ade i3]
 ·rfl
 ·intro i hi;obtain⟨i1,i2,i3⟩:=eW (cap:=1048576) ade hc hf i ade;obtain⟨f1,f2⟩:=hf i hi;obtain⟨s1,s2,s3⟩:=hc (a8 fs i).2.1.toNat ade;have hu:=iK i1 s3;have n_:((cR 1048576 c fs i).2.2++List.replicate (fs.length-i) 0).length=fs.length:=by rw[ado,adz,fQ];omega
  have hl1:i<((cR 1048576 c fs i).2.2++List.replicate (fs.length-i) 0).length:=by rw[n_];exact hi
  simp only[cZ,hi,ao,ads,adA,ak];rw[bE f1 ade,Yt _ ade];simp only[hl1,adA,ext,DZ (x:=(cR 1048576 c fs i).1) ade s3,Dj (fQ 1048576 c fs i) hi];have eR:a8 ((cR 1048576 c fs i).2.2++[mQ (cR 1048576 c fs i).1 (a8 c (a8 fs i).2.1.toNat).2]++List.replicate (fs.length-(i+1)) 0) i=mQ (cR 1048576 c fs i).1 (a8 c (a8 fs i).2.1.toNat).2:=by
   rw[dI (by rw[ado,fQ];simp)];exact gE (fQ ..)
  have Rz:i<((cR 1048576 c fs i).2.2++[mQ (cR 1048576 c fs i).1 (a8 c (a8 fs i).2.1.toNat).2]++List.replicate (fs.length-(i+1)) 0).length:=by
   rw[ado,ado,fQ];simp;omega
  simp only[Rz,adA,eR];rw[aU ade,jl ade ade,l6,ny];rfl
 ·simp only[ba,ao,aep,List.replicate_zero,adP];rfl
theorem eC {α β:Type} [Zr α] [Zr β] (f:α->β) {l:List α} {i:Nat} (h:i<l.length):a8 (l.map f) i=f (a8 l i):=by
 rw[bz (by rw[ae0];exact h),bz h,List.getElem_map]
theorem mz {α:Type} {l:List α} {n i:Nat} (hl:l.length=i) (hi:i<n) (x z:α):ae (l++List.replicate (n-i) z) i x=(l++[x])++List.replicate (n-(i+1)) z:=by
 have e1:n-i=(n-(i+1))+1:=ade;show List.set _ _ _=_;rw[List.set_append_right _ _ ade,hl,aep,e1,List.replicate_succ,List.set_cons_zero,adQ];rfl
theorem Ei {l:List aT} (hl:l.length<=32) (h:∀j,j<l.length->fb l j=true):LB l=some ((dK 1048576 l l.length).map ext):=by
 have hb:∀{k:Nat->Option (List P_)},T.b_ 1073741824 l.length k=k l.length:=by
  intro k;rw[T.d4,adh,adx]
 unfold LB;rw[hb];rw[aV (λi=>((i:Int),(dK 1048576 l i).map ext++List.replicate (l.length-i) (0,0,()))) l.length ((dK 1048576 l l.length).map ext) ?_ ade ?_ ?_]
 ·rfl
 ·intro i hi;have ho:=dq (h i hi);have hc:=gn (cap:=1048576) ade i (λj hj=>h j ade);have hlen:=cN 1048576 l i;have hw:(dK 1048576 l (i+1)).map ext=(dK 1048576 l i).map ext++[ext (oT 1048576 (dK 1048576 l i) (a8 l i))]:=by rw[dK,List.map_append];rfl
  have qc:((dK 1048576 l i).map ext).length=i:=by rw[ae0,hlen]
  have n_:i<((dK 1048576 l i).map ext++List.replicate (l.length-i) (0,0,())).length:=by rw[ado,adz,qc];omega
  have Yt:∀j,j<(dK 1048576 l i).length->a8 ((dK 1048576 l i).map ext++List.replicate (l.length-i) (0,0,())) j=ext (a8 (dK 1048576 l i) j):=λj hj=>by
   rw[dI (by rw[qc];omega),eC _ hj]
  have PR:=λx=>mz qc hi x ((0,0,()):P_)
  simp only[cZ,hi,ao,ads,adA,ak,ax,adk,n_,PR,aU (show i<9223372036854775807 by omega)];rw[hw];generalize a8 l i=t at ho⊢;generalize dK 1048576 l i=c at hc hlen qc n_ Yt⊢;generalize hq:c.map ext++List.replicate (l.length-i) (0,0,())=q at n_ Yt⊢;unfold oT
  by_cases k1:t.1=1
  ·rw[adp k1,adp k1];rfl
  ·rw[adq k1,adq k1]
   by_cases k24:t.1=2\/t.1=4
   ·have e1:(if t.1=2 then some true else some (decide (t.1=4)))=some true:=by
     split
     ·rfl
     ·rw[adf]
    rw[e1,join_some,adp rfl,adi,adi,adi,adi];rfl
   ·have e1:(if t.1=2 then some true else some (decide (t.1=4)))=some false:=by
     rw[adi,adg]
    rw[e1,join_some,adq (by decide)]
    by_cases k3:t.1=3
    ·rw[adp k3,adp k3];rfl
    ·rw[adq k3,adq k3]
     by_cases k7:t.1=7
     ·rw[adp k7,adp k7];rfl
     ·rw[adq k7,adq k7]
      by_cases k6:t.1=6
      ·obtain⟨a1,a2,a3,a4⟩:=ho.a k6;obtain⟨s1,s2,s3⟩:=hc t.2.1.toNat ade;have m1:=Int.mul_nonneg (show 0<=t.2.2.1 by omega) s1;have m2:=Int.mul_le_mul a4 s2 s1 ade;rw[adp k6,adp k6,bE a1 ade,Yt _ ade];simp only[ext];rw[eh ade ade,l6];rfl
      ·have k5:t.1=5:=by have:=ho.k;omega
       rw[adq k6,adq k6,adp k5,adp k5,Ej hc (by have:=ho.n;omega) (λk hk=>by rw[hlen];exact ho.f k hk) (by rw[<-hq,ado,qc];omega) Yt,a9];obtain⟨i1,i2,i3⟩:=eW (cap:=1048576) ade hc (fs:=t.2.2.2.1) (λk hk=>by rw[hlen];exact ho.f k hk) t.2.2.2.1.length (adw _);have Aw:min 1048576 (mQ (cR 1048576 c t.2.2.2.1 t.2.2.2.1.length).1 (cR 1048576 c t.2.2.2.1 t.2.2.2.1.length).2.1)=mQ (cR 1048576 c t.2.2.2.1 t.2.2.2.1.length).1 (cR 1048576 c t.2.2.2.1 t.2.2.2.1.length).2.1:=by
        unfold mQ;rcases i3 with e|e<;>rw[e]<;>omega
       unfold Az;rw[Aw];rfl
 ·simp only[ba,ao,aep,List.replicate_zero,adP];rfl
theorem Eh {x a:Int} (hx:0<=x/\x<=1000000000000) (ha:a=1\/a=8):IL x a=some (mQ x a):=by
 unfold IL mQ;have hd:0<=(x+a-1)/a*a/\(x+a-1)/a*a<=x+8:=by rcases ha with rfl|rfl<;>omega
 have WT:0<=(x+a-1)/a/\(x+a-1)/a<=x+8:=by rcases ha with rfl|rfl<;>omega
 rw[T.zf,adi,c8 ade ade,cD ade ade,T.AZ,Int.tdiv_eq_ediv_of_nonneg ade,Ke ade ade,eh ade ade]
theorem Eg {c:List (Int×Int)} (hc:qW c) {fs:List cy} (hn:fs.length<=1000) (hf:Hz c.length fs):Ln (c.map (·.1)) (c.map (·.2)) fs=some ((cR 1000000 c fs fs.length).2.2,Az 1000000 c fs):=by
 unfold Ln;rw[aV (λi=>((cR 1000000 c fs i).1,(cR 1000000 c fs i).2.1,(i:Int),(cR 1000000 c fs i).2.2)) fs.length (cR 1000000 c fs fs.length) ?_ ade ?_ ?_]
 ·obtain⟨i1,i2,i3⟩:=eW (cap:=1000000) ade hc hf fs.length (adw _);rw[Eh ade i3,a9,l6];rfl
 ·rfl
 ·intro i hi;obtain⟨i1,i2,i3⟩:=eW (cap:=1000000) ade hc hf i ade;obtain⟨f1,f2⟩:=hf i hi;obtain⟨s1,s2,s3⟩:=hc (a8 fs i).2.1.toNat ade;have hu:=iK i1 s3;have e1:a8 (c.map (·.1)) (a8 fs i).2.1.toNat=(a8 c (a8 fs i).2.1.toNat).1:=eC _ ade;have e2:a8 (c.map (·.2)) (a8 fs i).2.1.toNat=(a8 c (a8 fs i).2.1.toNat).2:=eC _ ade;simp only[cZ,hi,ao,ads,adA,ak];rw[bE f1 (by rw[ae0];exact f2),e2,Eh ade s3,a9,aY (by rw[ay,fQ];omega),bE f1 (by rw[ae0];exact f2),e1,bE f1 (by rw[ae0];exact f2),e2,aU ade,jl ade ade,l6,ny];rfl
 ·simp only[ba,ao];rfl
theorem py {l:List aT} (hl:l.length<=32) (h:∀j,j<l.length->fb l j=true):Ae l=some ((dK 1000000 l l.length).map (·.1),(dK 1000000 l l.length).map (·.2)):=by
 unfold Ae;rw[aV (λi=>((i:Int),(dK 1000000 l i).map (·.1),(dK 1000000 l i).map (·.2))) l.length ((dK 1000000 l l.length).map (·.1),(dK 1000000 l l.length).map (·.2)) ?_ ade ?_ ?_]
 ·rfl
 ·intro i hi;have ho:=dq (h i hi);have hc:=gn (cap:=1000000) ade i (λj hj=>h j ade);have hlen:=cN 1000000 l i;have hw:∀{β:Type} (f:Int×Int->β),(dK 1000000 l (i+1)).map f=(dK 1000000 l i).map f++[f (oT 1000000 (dK 1000000 l i) (a8 l i))]:=by intro β f;rw[dK,List.map_append];rfl
  have cap:∀{f:Int×Int->Int} {y:Option (T.LR (Int×((List Int)×(List Int))) ((List Int)×(List Int)) ((List Int)×(List Int)))},T.bj (aJ ((dK 1000000 l i).map f).length 1) y=y:=λ{f y}=>aY (by rw[ay,ae0,hlen];omega) y
  simp only[cZ,hi,ao,ads,adA,ak,ax,adk,aU (show i<9223372036854775807 by omega),hw,cap];generalize a8 l i=t at ho⊢;generalize dK 1000000 l i=c at hc hlen⊢;have fin:∀{x:Option (Int×Int)},x=some (oT 1000000 c t)->(join (Int×Int) x (λv2=>bh (E:=(List Int)×(List Int)) (Q:=(List Int)×(List Int)) (((i+1:Nat):Int),(aw (c.map (·.1)) [v2.1]),(aw (c.map (·.2)) [v2.2]))))=some (.ok (((i+1:Nat):Int),c.map (·.1)++[(oT 1000000 c t).1],c.map (·.2)++[(oT 1000000 c t).2])):=by
   intro x hx;rw[hx];rfl
  refine fin ?_;unfold oT
  by_cases k1:t.1=1
  ·rw[adp k1,adp k1]
  ·rw[adq k1,adq k1]
   by_cases k3:t.1=3
   ·rw[adp k3,adp k3]
   ·rw[adq k3,adq k3]
    by_cases k7:t.1=7
    ·rw[adp k7,adp k7]
    ·rw[adq k7,adq k7]
     by_cases k6:t.1=6
     ·obtain⟨a1,a2,a3,a4⟩:=ho.a k6;obtain⟨s1,s2,s3⟩:=hc t.2.1.toNat ade;have m1:=Int.mul_nonneg (show 0<=t.2.2.1 by omega) s1;have m2:=Int.mul_le_mul a4 s2 s1 ade;have e1:a8 (c.map (·.1)) t.2.1.toNat=(a8 c t.2.1.toNat).1:=eC _ ade;have e2:a8 (c.map (·.2)) t.2.1.toNat=(a8 c t.2.1.toNat).2:=eC _ ade;rw[adp k6,adp k6,bE a1 (by rw[ae0];omega),bE a1 (by rw[ae0];omega),e1,e2,eh ade ade,l6]
     ·rw[adq k6,adq k6]
      by_cases k5:t.1=5
      ·rw[adp k5,adp k5,Eg hc (by have:=ho.n;omega) (λk hk=>by rw[hlen];exact ho.f k hk),a9]
      ·rw[adq k5,adq k5]
 ·simp only[ba,ao];rfl
end Go.Proofs.YtbjcjppphoppfaaGreat.M
