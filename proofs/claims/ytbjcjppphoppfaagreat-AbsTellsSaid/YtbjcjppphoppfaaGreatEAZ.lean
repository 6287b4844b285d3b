import Derived.Test.YtbjcjppphoppfaaGreatEAY
set_option linter.all false
namespace Go.Proofs.YtbjcjppphoppfaaGreat.M
open Go.Proofs.YtbjcjppphoppfaaGreat.T hiding a8 ae av aH aw bd bM cC
theorem bG {x:Int} (h:x≠0):an (bm x 0)=true:=by rw[aA,aG,adl h];rfl
theorem cQ {x:Int} (h:x=0):an (bm x 0)=false:=by rw[aA,aG,adm h];rfl
theorem cE:an (bm 0 0)=false:=cQ rfl
def Fit:(t:Ty)->t.T->Prop
 | .i k,x=>ix k x
 | .u k,x=>x<fo k
 | .b,_=>True
 | .s,l=>List.length l<=5000/\∀c∈(show List Nat from l),c<256
 | .sl e,l=>List.length l<=5000/\∀x∈(show List e.T from l),Fit e x
 | .pr a c,x=>Fit a x.1/\Fit c x.2
 | .un,_=>True
 | .ar n e,l=>List.length l=n/\∀x∈(show List e.T from l),Fit e x
 | .gv,_=>True
theorem Fit.len {e:Ty} {l:List e.T} (h:Fit (.sl e) l):l.length<=5000:=h.1
theorem Fit.at {e:Ty} [Zr e.T] {l:List e.T} (h:Fit (.sl e) l) {i:Nat} (hi:i<l.length):Fit e (a8 l i):=by rw[bz hi];exact h.2 _ (adT hi)
theorem bR (c b:Bool):T.af c (λ_=>some true) (λ_=>some b)=some (c||b):=by cases c<;>rfl
theorem bX (c b:Bool):T.af c (λ_=>some b) (λ_=>some false)=some (c&&b):=by cases c<;>rfl
theorem Xk (x:List Nat) (l:List (List Nat)):T.uo x l=decide (x∈l):=by
 unfold T.uo;rw[T.dM]
theorem XD (x:List Nat) (l:List (List Nat)):T.sS x l=if x∈l then l else l++[x]:=by
 unfold T.sS;rw[T.cG,T.fM]
noncomputable def sn (f:Nat->List Nat):Nat->List (List Nat)
 |0=>[]
 |i+1=>T.sS (f i) (sn f i)
theorem Bi (f:Nat->List Nat) (x:List Nat):∀i,x∈sn f i↔∃j,j<i/\f j=x
 |0=>⟨λh=>(by cases h),λ⟨j,h,_⟩=>absurd h (adS _)⟩
 |i+1=>by
  unfold sn;rw[XD];have ih:=Bi f x i
  by_cases hm:f i∈sn f i
  ·rw[adp hm,ih];constructor
   ·rintro⟨j,h1,h2⟩;exact⟨j,ade,h2⟩
   ·rintro⟨j,h1,h2⟩
    by_cases hj:j<i
    ·exact⟨j,hj,h2⟩
    ·have:j=i:=by omega
     subst this;rw[<-h2];exact(Bi f (f j) j).1 hm
  ·rw[adq hm,adC,ih,adF];constructor
   ·rintro(⟨j,h1,h2⟩|h)
    ·exact⟨j,ade,h2⟩
    ·exact⟨i,ade,h.symm⟩
   ·rintro⟨j,h1,h2⟩
    by_cases hj:j<i
    ·exact .inl ⟨j,hj,h2⟩
    ·have:j=i:=by omega
     subst this;exact .inr h2.symm
theorem P8 (f:Nat->List Nat) (i:Nat):T.uo (f i) (sn f i)= !(List.range i).all λj=> !decide (f j=f i):=by
 rw[Xk];cases h:(List.range i).all λj=> !decide (f j=f i) with
 |true=>
  rw[adE] at h;refine adl λhm=> ?_
  obtain⟨j,h1,h2⟩:=(Bi f (f i) i).1 hm;have:=h j (adL.2 h1);rw[adm h2] at this;cases this
 |false=>
  refine adm ((Bi f (f i) i).2 ?_);refine Classical.byContradiction λhn=> ?_
  have:(List.range i).all (λj=> !decide (f j=f i))=true:=by
   rw[adE];intro j hj;rw[adl λe=>hn ⟨j,adL.1 hj,e⟩];rfl
  rw[this] at h;cases h
theorem Al (x n:Int):EF x n=some (decide (0<=x)&&decide (x<n)):=by
 unfold EF;rw[bX,join_some,aN,aE]
theorem EG {l:List Int} (h:l.length<4611686018427387904):xU l=some ((List.range l.length).all λi=>decide (a8 l i=0)):=by
 unfold xU;obtain⟨j,hj⟩:=lL (E:=Unit) (ρ:=Bool) (f:=λv0=>(af (aO v0 l.length) (λ_=>(T.ai l.length v0 (λv1=>(bind (Re (a8 l v1)) (λv2=>(af v2 (λ_=>(bT v0)) λ_=>(bh (ab 3 v0 1)))))))) λ_=>(lex ()))) (kx:=λ_=>(some (an (cB 0 (-1))))) (kr:=λv0=>(some (an (cB 0 v0)))) l.length (λi=>decide (a8 l i=0)) () ade (λi hi=>by
  simp only[cZ,hi,ads,ak,adA];unfold Re;rw[aD rfl,a9,aA,aG,aU ade]
  by_cases h0:a8 l i=0
  ·rw[adm h0];rfl
  ·rw[adl h0];rfl) (by rw[ba];rfl)
 rw[hj];cases(List.range l.length).all λi=>decide (a8 l i=0) with
 |true=>rw[adp rfl,aN];rfl
 |false=>rw[adq (by decide),aN,adm (show(0:Int)<=(j:Int) by omega)];rfl
theorem Wl (a:Int):xU [a]=some (decide (a=0)):=by
 rw[EG (l:=[a]) (show 1<4611686018427387904 by decide)];show some (decide (a=0)&&true)=_;rw[Bool.and_true]
theorem MO (a b:Int):xU [a,b]=some (decide (a=0)&&decide (b=0)):=by
 rw[EG (l:=[a,b]) (show 2<4611686018427387904 by decide)];show some (decide (a=0)&&(decide (b=0)&&true))=_;rw[Bool.and_true]
theorem Wm (a b c:Int):xU [a,b,c]=some (decide (a=0)&&(decide (b=0)&&decide (c=0))):=by
 rw[EG (l:=[a,b,c]) (show 3<4611686018427387904 by decide)];show some (decide (a=0)&&(decide (b=0)&&(decide (c=0)&&true)))=_;rw[Bool.and_true]
theorem W6 {l:List aT} (h:Fit (.sl ca) l) {i:Nat} (hi:i<l.length):R2 l (i:Int)=some (fb l i):=by
 have n_:=h.len;have ht:=h.at hi;unfold R2 fb Hg;rw[ak,adp hi];generalize a8 l i=t at ht⊢;obtain⟨-,h2,h3,h4,-⟩:=ht;have hl4:=h4.len;simp only[ax,bR,join_some]
 by_cases Ro:t.1=1\/t.1=2\/t.1=3
 ·rw[adp Ro,aD (by simpa using Ro),Wm,a9]
 ·rw[adq Ro,aC (by simpa using Ro)]
  by_cases Tm:t.1=4\/t.1=7
  ·rw[adp Tm,aD (by simpa using Tm),Al,a9,MO,a9,bX,join_some,Bool.and_assoc]
  ·rw[adq Tm,aC (by simpa using Tm)]
   by_cases h6:t.1=6
   ·have e16:(decide (0<=T.bq 3 t.2.2.1 1)&&decide (T.bq 3 t.2.2.1 1<16))=(decide (1<=t.2.2.1)&&decide (t.2.2.1<=16)):=by
     have h3:ix 3 t.2.2.1:=h3;have h3: -(18446744073709551616:Int)<=2*t.2.2.1/\2*t.2.2.1<18446744073709551616:=h3
     by_cases hm:t.2.2.1= -9223372036854775808
     ·rw[hm,T.Fy];rfl
     ·rw[cD ade ade,ae8,adr,adr,adk,adk,adk,adk];omega
    rw[adp h6,aD (adm h6),Al,a9,Al,a9,Wl,a9,e16,bX,bX,join_some,Bool.and_assoc,Bool.and_assoc]
   ·rw[adq h6,aC (adl h6)]
    by_cases h5:t.1=5
    ·rw[adp h5,aD (adm h5)];rw[fZ (λk=>((k:Int),((),sn (λj=>(a8 t.2.2.2.1 j).1) k))) t.2.2.2.1.length (λk=>(named (a8 t.2.2.2.1 k).1&&(List.range k).all λj=> !decide ((a8 t.2.2.2.1 j).1=(a8 t.2.2.2.1 k).1))&& !(decide ((a8 t.2.2.2.1 k).2.1<0)||decide ((i:Int)<=(a8 t.2.2.2.1 k).2.1))) false ((),sn (λj=>(a8 t.2.2.2.1 j).1) t.2.2.2.1.length) ?_ ade ?_ ?_]
     ·rw[MO,a9,bX,bX,join_some];unfold fY;have dj:(List.range t.2.2.2.1.length).all (λk=>(named (a8 t.2.2.2.1 k).1&&(List.range k).all λj=> !decide ((a8 t.2.2.2.1 j).1=(a8 t.2.2.2.1 k).1))&& !(decide ((a8 t.2.2.2.1 k).2.1<0)||decide ((i:Int)<=(a8 t.2.2.2.1 k).2.1)))=((List.range t.2.2.2.1.length).all (λk=>named (a8 t.2.2.2.1 k).1&&(List.range k).all λj=> !decide ((a8 t.2.2.2.1 j).1=(a8 t.2.2.2.1 k).1))&&(List.range t.2.2.2.1.length).all λk=> !(decide ((a8 t.2.2.2.1 k).2.1<0)||decide ((i:Int)<=(a8 t.2.2.2.1 k).2.1))):=by
       rw[ae8,adr,adE,adE,adE];constructor
       ·intro hh;exact⟨λk hk=>by have:=hh k hk;rw[adr] at this;exact this.1,λk hk=>by have:=hh k hk;rw[adr] at this;exact this.2⟩
       ·rintro⟨h1,h2⟩ k hk;rw[adr];exact⟨h1 k hk,h2 k hk⟩
      rw[dj];generalize(List.range t.2.2.2.1.length).all (λk=>named (a8 t.2.2.2.1 k).1&&(List.range k).all λj=> !decide ((a8 t.2.2.2.1 j).1=(a8 t.2.2.2.1 k).1))=p;generalize(List.range t.2.2.2.1.length).all (λk=> !(decide ((a8 t.2.2.2.1 k).2.1<0)||decide ((i:Int)<=(a8 t.2.2.2.1 k).2.1)))=q;have e8:cB t.2.2.2.1.length 8= !decide ((8:Int)<(t.2.2.2.1.length:Int)):=by
       rw[aN,<-decide_not,decide_eq_decide];omega
      rw[aE,e8];generalize decide (t.2.1=0)=r1;generalize decide (t.2.2.1=0)=r2;generalize decide ((0:Int)<(t.2.2.2.1.length:Int))=r3;generalize decide ((8:Int)<(t.2.2.2.1.length:Int))=r4;cases p<;>cases q<;>cases r1<;>cases r2<;>cases r3<;>cases r4<;>rfl
     ·rfl
     ·intro k hk;have hx:=h4.at hk;simp only[cZ,hk,ads,ak,adA];rw[aD rfl,Ey _ hx.1.2,a9,Al,a9];have es:=P8 (λj=>(a8 t.2.2.2.1 j).1) k;rw[es,bR,bR,join_some,aA,aA,aU ade];have e2:(!(decide (0<=(a8 t.2.2.2.1 k).2.1)&&decide ((a8 t.2.2.2.1 k).2.1<(i:Int))))=(decide ((a8 t.2.2.2.1 k).2.1<0)||decide ((i:Int)<=(a8 t.2.2.2.1 k).2.1)):=by
       rw[ae8,adn,ae6,aec,adj,adj,adk,adk];omega
      rw[e2];have e3:sn (λj=>(a8 t.2.2.2.1 j).1) (k+1)=T.sS (a8 t.2.2.2.1 k).1 (sn (λj=>(a8 t.2.2.2.1 j).1) k):=rfl;rw[e3];generalize named (a8 t.2.2.2.1 k).1=p1;generalize((List.range k).all λj=> !decide ((a8 t.2.2.2.1 j).1=(a8 t.2.2.2.1 k).1))=p2;generalize(decide ((a8 t.2.2.2.1 k).2.1<0)||decide ((i:Int)<=(a8 t.2.2.2.1 k).2.1))=p3;cases p1<;>cases p2<;>cases p3<;>rfl
     ·rw[ba];rfl
    ·rw[adq h5,aC (adl h5)]
def Ap (l:List aT):Bool:=(List.range l.length).all (fb l)
def Y1 (l:List aT):Bool:=(List.range l.length).all λi=> !decide (5000<a8 (WS l 4) i)
def fm (l:List aT):Int:=if 32<(l.length:Int) then 8 else if Ap l=true then(if Y1 l=true then 0 else 8) else 8
theorem cw {l:List aT} (h:fm l=0):l.length<=32/\∀j,j<l.length->fb l j=true:=by
 unfold fm at h;split at h
 ·cases h
 ·split at h
  ·rename_i h1 h2;unfold Ap at h2;rw[adE] at h2;exact⟨ade,λj hj=>h2 j (adL.2 hj)⟩
  ·cases h
theorem vF {l:List aT} (h:Fit (.sl ca) l):C4 l=some (fm l):=by
 unfold C4 fm
 by_cases hl:32<(l.length:Int)
 ·simp only[ao,aE,aN,aG,aW,aZ,ax,bc,aA,bg,a9,au,join_some,join_none,ak,aI,aF,ay,aS,decide_eq_true_eq,Bool.not_eq_true',decide_eq_false_iff_not,hl];grind
 ·rw[adq hl,aC (by rw[aE];exact adl hl)];rw[bA l.length (fb l) 8 () ade ?_ ?_]
  ·unfold Ap
   by_cases hf:(List.range l.length).all (fb l)=true
   ·rw[adp hf,adp hf,W7 ade (λj hj=>adE.1 hf j (adL.2 hj)),a9];rw[bA l.length (λi=> !decide (5000<a8 (WS l 4) i)) 8 () ade ?_ ?_]
    ·unfold Y1;grind
    ·intro i hi;have hw:i<(WS l 4).length:=by rw[pg];exact hi
     rw[pg];simp only[cZ,hi,ao,ads,adA,ak,aE,bh,bT,aU (show i<9223372036854775807 by omega)];grind
    ·rw[pg,ba];rfl
   ·rw[adq hf,adq hf]
  ·intro i hi;simp only[cZ,hi,ao,ads,adA,W6 h hi,a9,aA,bh,bT,aU (show i<9223372036854775807 by omega)];grind
  ·rw[ba];rfl
theorem LM {l:List aT} (h:Fit (.sl ca) l) {n:Nat} (hn:3<n):IP n l=some (fm l):=by
 unfold IP fm
 by_cases hl:32<(l.length:Int)
 ·simp only[ao,aE,aN,aG,aW,aZ,ax,bc,aA,bg,a9,au,join_some,join_none,ak,aI,aF,ay,aS,decide_eq_true_eq,Bool.not_eq_true',decide_eq_false_iff_not,hl];grind
 ·rw[adq hl,aC (by rw[aE];exact adl hl)];rw[bA l.length (fb l) 8 () ade ?_ ?_]
  ·unfold Ap
   by_cases hf:(List.range l.length).all (fb l)=true
   ·have hw:=Mt (l:=l) ade (λj hj=>adE.1 hf j (adL.2 hj)) 3 n hn ade;rw[adp hf,adp hf,show(3:Int)=((3:Nat):Int) from rfl,hw,a9];rw[bA l.length (λi=> !decide (5000<a8 (WS l 4) i)) 8 () ade ?_ ?_]
    ·unfold Y1;grind
    ·intro i hi;have hw:i<(WS l 4).length:=by rw[pg];exact hi
     simp only[cZ,hi,hw,ao,ads,adA,ak,aE,bh,bT,aU (show i<9223372036854775807 by omega)];grind
    ·rw[ba];rfl
   ·rw[adq hf,adq hf]
  ·intro i hi;have hx:=h.at hi;simp only[cZ,hi,ao,ads,adA,Wb hi (show _<4611686018427387904 by have:=hx.2.2.2.1.1;omega),a9,aA,bh,bT,aU (show i<9223372036854775807 by omega)];grind
  ·rw[ba];rfl
def RR (x y:Int):Prop:=x=y\/(1000000<=x/\1000000<=y)
def RS (s s':Int×Int):Prop:=RR s.1 s'.1/\s.2=s'.2
theorem RR.up {x y a:Int} (h:RR x y) (ha:a=1\/a=8):RR (mQ x a) (mQ y a):=by
 rcases h with h|h
 ·exact Or.inl (by rw[h])
 ·right;unfold mQ;rcases ha with rfl|rfl<;>omega
theorem RR.add {x y x' y':Int} (h:RR x y) (h':RR x' y') (h0:0<=x) (h1:0<=y) (h2:0<=x') (h3:0<=y'):RR (x+x') (y+y'):=by unfold RR at*;omega
theorem RR.cap {x y:Int} (h:RR x y):RR (min 1048576 x) (min 1000000 y):=by unfold RR at*;omega
theorem CE {c c':List (Int×Int)} (hl:c.length=c'.length) (hc:qW c) (hc':qW c') (hr:∀j,j<c.length->RS (a8 c j) (a8 c' j)) {fs:List cy} (hf:Hz c.length fs):∀k,k<=fs.length->RS ((cR 1048576 c fs k).1,(cR 1048576 c fs k).2.1) ((cR 1000000 c' fs k).1,(cR 1000000 c' fs k).2.1)
 |0,_=>⟨Or.inl rfl,rfl⟩
 |k+1,h=>by
  obtain⟨r1,r2⟩:=CE hl hc hc' hr hf k ade;obtain⟨i1,i2,i3⟩:=eW (cap:=1048576) ade hc hf k ade;obtain⟨j1,j2,j3⟩:=eW (cap:=1000000) ade hc' (fs:=fs) (by rw[<-hl];exact hf) k ade;obtain⟨f1,f2⟩:=hf k ade;obtain⟨s1,s2,s3⟩:=hc (a8 fs k).2.1.toNat ade;obtain⟨t1,t2,t3⟩:=hc' (a8 fs k).2.1.toNat ade;obtain⟨q1,q2⟩:=hr (a8 fs k).2.1.toNat ade;have u1:=iK i1 s3;have u2:=iK j1 t3;dsimp only at r1 r2;unfold cR;refine⟨RR.cap (RR.add ?_ q1 ade ade s1 t1),?_⟩
  ·rw[<-q2];exact RR.up r1 s3
  ·dsimp only;rw[r2,q2]
theorem rE {l:List aT} (h:∀j,j<l.length->fb l j=true):∀i,i<=l.length->∀j,j<i->RS (a8 (dK 1048576 l i) j) (a8 (dK 1000000 l i) j)
 |0,_,j,hj=>absurd hj (adS _)
 |i+1,hi,j,hj=>by
  have hc:=gn (cap:=1048576) ade i (λj hj=>h j ade);have hc':=gn (cap:=1000000) ade i (λj hj=>h j ade);have l1:=cN 1048576 l i;have l2:=cN 1000000 l i;have ih:=rE h i ade
  by_cases hji:j<i
  ·rw[dK,dK,dI ade,dI ade];exact ih j hji
  ·have:j=i:=by omega
   subst this;rw[dK,dK,gE l1,gE l2];have ho:=dq (h j ade);generalize a8 l j=t at ho⊢;generalize dK 1048576 l j=c at hc l1 ih⊢;generalize dK 1000000 l j=c' at hc' l2 ih⊢;unfold oT;split
   ·exact⟨Or.inl rfl,rfl⟩
   ·split
    ·exact⟨Or.inl rfl,rfl⟩
    ·split
     ·exact⟨Or.inl rfl,rfl⟩
     ·split
      ·rename_i h6;obtain⟨a1,a2,a3,a4⟩:=ho.a h6;obtain⟨s1,s2,s3⟩:=hc t.2.1.toNat ade;obtain⟨t1,t2,t3⟩:=hc' t.2.1.toNat ade;obtain⟨q1,q2⟩:=ih t.2.1.toNat ade;refine⟨RR.cap ?_,q2⟩;rcases q1 with q1|q1
       ·exact Or.inl (by rw[q1])
       ·have e1:=Int.mul_le_mul a3 (Int.le_refl (a8 c t.2.1.toNat).1) s1 ade;have e2:=Int.mul_le_mul a3 (Int.le_refl (a8 c' t.2.1.toNat).1) t1 ade;right;omega
      ·split
       ·have hf:Hz c.length t.2.2.2.1:=λk hk=>by rw[l1];exact ho.f k hk
        obtain⟨r1,r2⟩:=CE ade hc hc' (λj hj=>ih j ade) hf t.2.2.2.1.length (adw _);obtain⟨i1,i2,i3⟩:=eW (cap:=1048576) ade hc hf t.2.2.2.1.length (adw _);dsimp only at r1 r2;refine⟨RR.cap ?_,r2⟩;rw[<-r2];exact RR.up r1 i3
       ·exact⟨Or.inl rfl,rfl⟩
def iz (l:List aT) (t:Int):Int:=
 if fm l=0 then(if t<0\/(l.length:Int)<=t then 2 else if 256<(a8 (dK 1000000 l l.length) t.toNat).1 then 16 else 0) else 8
theorem RU {l:List aT} (h:fm l≠0):fm l=8:=by
 revert h;unfold fm;split
 ·intro _;rfl
 ·split
  ·split
   ·intro h;exact absurd rfl h
   ·intro _;rfl
  ·intro _;rfl
def s_ (l:List aT) (t:Int):Int×(Int×Int):=if iz l t=0 then((a8 (dK 1000000 l l.length) t.toNat).1,(a8 (dK 1000000 l l.length) t.toNat).2,0) else(0,0,iz l t)
theorem sj {l:List aT} (h:Fit (.sl ca) l) (t:Int):xQ l t=some (s_ l t):=by
 unfold xQ VN s_ iz;rw[vF h];simp only[a9]
 by_cases hk:fm l=0
 ·obtain⟨z1,z2⟩:=cw hk;rw[aC (cQ hk),adp hk]
  by_cases ht:t<0\/(l.length:Int)<=t
  ·rw[adp ht];simp only[ao,aE,aN,aG,aW,aZ,ax,bc,aA,bg,a9,au,join_some,join_none,ak,aI,aF,ay,aS,adk,adn,adj];grind
  ·rw[adq ht];obtain⟨m,rfl⟩:∃m:Nat,t=m:=⟨t.toNat,ade⟩;have hm:m<l.length:=ade;have e0:((dK 1048576 l l.length).map ext).length=l.length:=by rw[ae0,cN]
   have e1:a8 ((dK 1048576 l l.length).map ext) m=ext (a8 (dK 1048576 l l.length) m):=eC _ (by rw[cN];exact hm);obtain⟨r1,r2⟩:=rE z2 l.length (adw _) m hm;have ej:join Bool (af (aO (m:Int) 0) (λ_=>some true) λ_=>some (cB l.length (m:Int))) (ρ:=List (Int×(Int×Unit))×Int)=λk=>k false:=by
    funext k;have:¬((l.length:Int)<=(m:Int)):=ade;have:¬((m:Int)<0):=ade;simp only[ao,aE,aN,aG,aW,aZ,ax,bc,aA,bg,a9,au,join_some,join_none,ak,aI,aF,ay,aS,adk,adn,adj, *];rfl
   rw[ej];simp only[Ei z1 z2,a9,ak,e0,hm,adA,e1,ext,adx,ao,aE,adk,aeb,ae7]
   by_cases hb:256<(a8 (dK 1000000 l l.length) m).1
   ·have hb':256<(a8 (dK 1048576 l l.length) m).1:=by unfold RR at r1;omega
    rw[adp hb,adp hb',a9,adp (bG (by decide))];rfl
   ·have hb':¬256<(a8 (dK 1048576 l l.length) m).1:=by unfold RR at r1;omega
    have he:(a8 (dK 1048576 l l.length) m).1=(a8 (dK 1000000 l l.length) m).1:=by unfold RR at r1;omega
    rw[adq hb,adq hb',a9];simp only[aG,aA,ads,Bool.not_true,aeb,ae7,e0,hm,adA,e1,ext,he,r2]
 ·rw[adq hk,aD (bG hk),RU hk,a9,aD (bG (by decide))];rfl
theorem VY {l:List aT} (h:Fit (.sl ca) l) {n:Nat} (hn:3<n) (s t:Int):QZ n l s t=some (if fm l=0 then(if(s<0\/(l.length:Int)<=s)\/(t<0\/(l.length:Int)<=t) then 2 else 0) else 8):=by
 unfold QZ;simp only[ao,aE,aN,aG,aW,aZ,ax,bc,aA,bg,a9,au,join_some,join_none,ak,aI,aF,ay,aS,adk,adn,adj,LM h hn];grind
theorem VA {l:List aT} (h:Fit (.sl ca) l) {n:Nat} (hn:3<n) (t:Int):QG n l t=some (iz l t):=by
 unfold QG iz;rw[VY h hn];simp only[a9,or_self]
 by_cases hk:fm l=0
 ·obtain⟨z1,z2⟩:=cw hk;rw[adp hk,adp hk]
  by_cases ht:t<0\/(l.length:Int)<=t
  ·rw[adp ht,adp ht,aD (bG (by decide))]
  ·obtain⟨m,rfl⟩:∃m:Nat,t=m:=⟨t.toNat,ade⟩;have hm:m<l.length:=ade;have e0:((dK 1000000 l l.length).map (·.1)).length=l.length:=by rw[ae0,cN]
   have e1:a8 ((dK 1000000 l l.length).map (·.1)) m=(a8 (dK 1000000 l l.length) m).1:=eC _ (by rw[cN];exact hm);rw[adq ht,adq ht,aC cE,py z1 z2,a9];simp only[ak,e0,hm,adA,e1,adx,ao,aE,adk];split<;>rfl
 ·rw[adq hk,adq hk,aD (bG (by decide))]
theorem E8 {l:List aT} (h:Fit (.sl ca) l) {n:Nat} (hn:3<n) (t:Int):IE n l t=some (s_ l t):=by
 unfold IE s_;rw[VA h hn,a9]
 by_cases h0:iz l t=0
 ·rw[adp h0,aC (cQ h0)];unfold iz at h0;split at h0
  ·rename_i hk;obtain⟨z1,z2⟩:=cw hk;split at h0
   ·cases h0
   ·rename_i ht;obtain⟨m,rfl⟩:∃m:Nat,t=m:=⟨t.toNat,ade⟩;have hm:m<l.length:=ade;have e0:∀f:Int×Int->Int,((dK 1000000 l l.length).map f).length=l.length:=λf=>by rw[ae0,cN]
    have e1:∀f:Int×Int->Int,a8 ((dK 1000000 l l.length).map f) m=f (a8 (dK 1000000 l l.length) m):=λf=>eC f (by rw[cN];exact hm)
    rw[py z1 z2,a9];simp only[ak,e0,hm,adA,e1,adx]
  ·cases h0
 ·rw[adq h0,aD (bG h0)]
def dC (t:aT):List Int:=(if t.1=6\/t.1=4\/t.1=7 then[t.2.1] else[])++mJ t.2.2.2.1 t.2.2.2.1.length
theorem Hi (t:aT):(dC t).length<=t.2.2.2.1.length+1:=by
 unfold dC;split<;>rw[ado,dE]<;>simp<;>omega
theorem EU {n i:Nat} {t:aT} (h:UB n i t) (hi:i<n) {k:Nat} (hk:k<(dC t).length):0<=a8 (dC t) k/\a8 (dC t) k<n:=by
 unfold dC at hk⊢;split at hk
 ·rename_i hc;have n0:t.2.2.2.1.length=0:=by
   by_cases n0:t.2.2.2.1.length=0
   ·exact n0
   ·have:=h.s n0;omega
  rw[adp hc,n0];rw[n0] at hk;have Jd:k=0:=by simp[mJ] at hk;omega
  subst Jd;show 0<=t.2.1/\t.2.1<n;rcases hc with hc|hc
  ·have:=h.a hc;omega
  ·exact h.p hc
 ·rename_i hc;rw[adq hc];rw[List.nil_append,dE] at hk;rw[List.nil_append,sy _ hk];have:=h.f k hk;omega
theorem Wo {t:aT} (h:t.2.2.2.1.length<=1000):MP t true=some (dC t):=by
 have main:∀a:List Int,a.length<=1->loop (Int×List Int) (List Int) (List Int) (λv1=>(af (aO v1.1 t.2.2.2.1.length) (λ_=>(ai t.2.2.2.1.length v1.1 (λv2=>(bj (aJ v1.2.length 1) (bh ((ab 3 v1.1 1),(aw v1.2 [(a8 t.2.2.2.1 v2).2.1]))))))) λ_=>(lex v1.2))) (0,a) (λv1=>(some v1)) (λv1=>none)=some (a++mJ t.2.2.2.1 t.2.2.2.1.length):=by
  intro a ha;rw[aV (λk=>((k:Int),a++mJ t.2.2.2.1 k)) t.2.2.2.1.length (a++mJ t.2.2.2.1 t.2.2.2.1.length) ?_ ade ?_ ?_]
  ·show _=(((0:Nat):Int),a++[]);rw[adP];rfl
  ·intro k hk;have hl:(a++mJ t.2.2.2.1 k).length+1<=1073741824:=by rw[ado,dE];omega
   simp only[cZ,hk,ads,adA,ak,ao,aU (show k<9223372036854775807 by omega),ay,aY hl,mJ,aw,ad_,adQ];rfl
  ·simp only[ba,ao];rfl
 unfold MP dC;have e1:(af (aR t.1 6) (λ_=>(some true)) λ_=>(af true (λ_=>(af (aR t.1 4) (λ_=>(some true)) λ_=>(some (aR t.1 7)))) λ_=>(some false)))=some (decide (t.1=6\/t.1=4\/t.1=7)):=by
  simp only[ao,aE,aN,aG,aW,aZ,ax,bc,aA,bg,a9,au,join_some,join_none,ak,aI,aF,ay,aS,decide_eq_true_eq,Bool.not_eq_true',decide_eq_false_iff_not];grind
 rw[e1,join_some]
 by_cases hc:t.1=6\/t.1=4\/t.1=7
 ·rw[adp hc,aD (adm hc),aY (by decide),join_some];exact main [t.2.1] (by simp)
 ·rw[adq hc,aC (adl hc),join_some];exact main [] (by simp)
theorem VW {n i:Nat} {t:aT} (h:UB n i t):QX t=some (dC t):=by
 unfold QX;rw[MN (by have:=h.n;omega),a9];have e1:(af (aR t.1 4) (λ_=>(some true)) λ_=>(some (aR t.1 7)))=some (decide (t.1=4\/t.1=7)):=by
  simp only[ao,aE,aN,aG,aW,aZ,ax,bc,aA,bg,a9,au,join_some,join_none,ak,aI,aF,ay,aS,decide_eq_true_eq,Bool.not_eq_true',decide_eq_false_iff_not];grind
 rw[e1,join_some];have pl:(l8 t).length<=9:=by
  unfold l8;have:=h.n;split<;>rw[ado,dE]<;>simp<;>omega
 by_cases hc:t.1=4\/t.1=7
 ·have n0:t.2.2.2.1.length=0:=by
   by_cases n0:t.2.2.2.1.length=0
   ·exact n0
   ·have:=h.s n0;omega
  rw[aD (adm hc),aY (by rw[ay];omega),join_some];unfold l8 dC;rw[n0,adi,adh];rfl
 ·rw[aC (adl hc),join_some];unfold l8 dC
  by_cases h6:t.1=6
  ·rw[adp h6,adp (Or.inl h6)]
  ·rw[adq h6,adi]
inductive lu (l:List aT) (s:Nat):Nat->Prop
 |here:lu l s s
 |step (i k:Nat):lu l s i->k<(dC (a8 l i)).length->lu l s (a8 (dC (a8 l i)) k).toNat
def oH:List Bool->Nat
 |[]=>0
 |b::r=>(if b=true then 1 else 0)+oH r
theorem kR:∀m:List Bool,oH m<=m.length
 |[]=>adw _
 |b::r=>by
  have:=kR r;simp only[oH,adB];split<;>omega
theorem lC:∀m m':List Bool,m.length=m'.length->(∀j,a8 m j=true->a8 m' j=true)->oH m<=oH m'
 |[],[],_,_=>adw _
 |b::r,b'::r',hl,h=>by
  have ih:=lC r r' (by simpa using hl) (λj hj=>h (j+1) hj);have h0:b=true->b'=true:=h 0;simp only[oH];cases b<;>cases b'<;>simp at h0⊢<;>omega
theorem mZ:∀(m m':List Bool),m.length=m'.length->(∀j,a8 m j=true->a8 m' j=true)->∀j,a8 m j=false->a8 m' j=true->oH m<oH m'
 |[],[],_,_,j,_,h2=>by
  rw[dJ (ae5 j)] at h2;cases h2
 |b::r,b'::r',hl,h,0,h1,h2=>by
  have ih:=lC r r' (by simpa using hl) (λj hj=>h (j+1) hj);have e1:b=false:=h1;have e2:b'=true:=h2;subst e1;subst e2;simp only[oH];simp;omega
 |b::r,b'::r',hl,h,j+1,h1,h2=>by
  have ih:=mZ r r' (by simpa using hl) (λj hj=>h (j+1) hj) j h1 h2;have h0:b=true->b'=true:=h 0;simp only[oH];cases b<;>cases b'<;>simp at h0⊢<;>omega
theorem dd {α:Type} [Zr α] {l:List α} {i j:Nat} {x:α} (hi:i<l.length):a8 (ae l i x) j=if i=j then x else a8 l j:=by
 show(l.set i x).getD j Zr.z=if i=j then x else l.getD j Zr.z
 rw[adG,adG,List.getElem?_set];split
 ·first
  |rfl
  |(rw[adp hi];rfl)
 ·rfl
theorem cM {α:Type} {l:List α} {i:Nat} {x:α}:(ae l i x).length=l.length:=List.length_set
def jy (m:List Bool) (l:List Int):Nat->List Bool
 |0=>m
 |k+1=>ae (jy m l k) (a8 l k).toNat true
theorem k9 (m:List Bool) (l:List Int):∀k,(jy m l k).length=m.length
 |0=>rfl
 |k+1=>by rw[jy,cM,k9 m l k]
theorem sW {m:List Bool} {l:List Int} (hl:∀k,k<l.length->(a8 l k).toNat<m.length):∀k,k<=l.length->∀j,a8 (jy m l k) j=true↔a8 m j=true\/∃i,i<k/\(a8 l i).toNat=j
 |0,_,j=>by simp[jy]
 |k+1,hk,j=>by
  have ih:=sW hl k ade j;rw[jy,dd (by rw[k9];exact hl k ade)]
  by_cases e:(a8 l k).toNat=j
  ·rw[adp e];exact⟨λ_=>Or.inr ⟨k,ade,e⟩,λ_=>rfl⟩
  ·rw[adq e,ih];constructor
   ·rintro(h|⟨i,h1,h2⟩)
    ·exact Or.inl h
    ·exact Or.inr ⟨i,ade,h2⟩
   ·rintro(h|⟨i,h1,h2⟩)
    ·exact Or.inl h
    ·by_cases h3:i=k
     ·subst h3;exact absurd h2 e
     ·exact Or.inr ⟨i,ade,h2⟩
def gA (l:List aT) (m:List Bool):Nat->List Bool
 |0=>m
 |j+1=>if a8 (gA l m j) j=true then jy (gA l m j) (dC (a8 l j)) (dC (a8 l j)).length else gA l m j
theorem lP (l:List aT) (m:List Bool):∀j,(gA l m j).length=m.length
 |0=>rfl
 |j+1=>by
  unfold gA;split
  ·rw[k9,lP l m j]
  ·exact lP l m j
section clo
variable {l:List aT} (h:∀j,j<l.length->fb l j=true)
include h
theorem AA {j k:Nat} (hj:j<l.length) (hk:k<(dC (a8 l j)).length):(a8 (dC (a8 l j)) k).toNat<l.length:=by
 have:=EU (dq (h j hj)) hj hk;omega
theorem D5 {m:List Bool} (hm:m.length=l.length):∀j,j<=l.length->(∀x,a8 m x=true->a8 (gA l m j) x=true)/\(∀i,i<j->a8 m i=true->∀k,k<(dC (a8 l i)).length->a8 (gA l m j) (a8 (dC (a8 l i)) k).toNat=true)/\(∀s,(∀x,a8 m x=true->lu l s x)->∀x,a8 (gA l m j) x=true->lu l s x)
 |0,_=>⟨λ_ h=>h,λi hi=>absurd hi (adS _),λ_ h=>h⟩
 |j+1,hj=>by
  obtain⟨i1,i2,i3⟩:=D5 hm j ade;unfold gA
  by_cases hc:a8 (gA l m j) j=true
  ·rw[adp hc];have ha:=λx=>sW (m:=gA l m j) (l:=dC (a8 l j)) (λk hk=>by rw[lP,hm];exact AA h ade hk) (dC (a8 l j)).length (adw _) x
   refine⟨λx hx=>(ha x).2 (Or.inl (i1 x hx)),λi hi lZ k hk=> ?_,λs hs x hx=> ?_⟩
   ·by_cases e:i=j
    ·subst e;exact(ha _).2 (Or.inr ⟨k,hk,rfl⟩)
    ·exact(ha _).2 (Or.inl (i2 i ade lZ k hk))
   ·rcases(ha x).1 hx with hx|⟨k,hk,rfl⟩
    ·exact i3 s hs x hx
    ·exact lu.step j k (i3 s hs j hc) hk
  ·rw[adq hc];refine⟨i1,λi hi lZ k hk=> ?_,i3⟩
   by_cases e:i=j
   ·subst e;exact absurd (i1 _ lZ) hc
   ·exact i2 i ade lZ k hk
end clo
def uU (l:List aT) (m:List Bool):Nat->List Bool
 |0=>m
 |r+1=>gA l (uU l m r) l.length
theorem kK (l:List aT) (m:List Bool):∀r,(uU l m r).length=m.length
 |0=>rfl
 |r+1=>by rw[uU,lP,kK l m r]
def Clo (l:List aT) (m:List Bool):Prop:=∀i,i<l.length->a8 m i=true->∀k,k<(dC (a8 l i)).length->a8 m (a8 (dC (a8 l i)) k).toNat=true
def PM (l:List aT) (s:Nat) (m:List Bool):Prop:=m.length=l.length/\∀j,a8 m j=true↔lu l s j
theorem YQ {l:List aT} {s:Nat} {m m':List Bool} (h:PM l s m) (h':PM l s m'):m=m':=by
 apply List.ext_getElem (by rw[h.1,h'.1]);intro i h1 h2;rw[<-bz h1,<-bz h2,ae8,h.2,h'.2]
theorem KE {l:List aT} (h:∀j,j<l.length->fb l j=true) {s:Nat} (hs:s<l.length) {m:List Bool} (hm:m.length=l.length) (h0:a8 m s=true) (h1:∀x,a8 m x=true->lu l s x) (hc:Clo l m):PM l s m:=by
 refine⟨hm,λj=>⟨h1 j,λhr=> ?_⟩⟩;have:j<l.length/\a8 m j=true:=by
  induction hr with
  |here=>exact⟨hs,h0⟩
  |step i k _ hk ih=>exact⟨AA h ih.1 hk,hc i ih.1 ih.2 k hk⟩
 exact this.2
theorem XG {l:List aT} (h:∀j,j<l.length->fb l j=true) {s:Nat} (hs:s<l.length) {m:List Bool} (hm:m.length=l.length) (h0:a8 m s=true) (h1:∀x,a8 m x=true->lu l s x):PM l s (uU l m l.length):=by
 have base:∀r,a8 (uU l m r) s=true/\(∀x,a8 (uU l m r) x=true->lu l s x)/\(PM l s (uU l m r)\/r+1<=oH (uU l m r)):=by
  intro r
  induction r with
  |zero=>
   refine⟨h0,h1,Or.inr ?_⟩;have:=mZ (List.replicate m.length false) m (by simp) (λj hj=> ?_) s ?_ h0
   ·show 1<=oH m;omega
   ·by_cases hj':j<m.length
    ·rw[bz (by simpa using hj')] at hj;simp at hj
    ·rw[dJ (by simp;omega)] at hj;cases hj
   ·rw[bz (by simp;omega)];simp
  |succ r ih=>
   obtain⟨i1,i2,i3⟩:=ih;have hl:(uU l m r).length=l.length:=by rw[kK,hm]
   obtain⟨p1,p2,p3⟩:=D5 h hl l.length (adw _);refine⟨p1 s i1,p3 s i2,?_⟩
   by_cases hc:Clo l (uU l m r)
   ·left;have hP:=KE h hs hl i1 i2 hc;refine⟨by rw[kK,hm],λj=>⟨p3 s i2 j,λhr=>p1 j ((hP.2 j).2 hr)⟩⟩
   ·rcases i3 with i3|i3
    ·exfalso;apply hc;intro i hi lZ k hk;exact(i3.2 _).2 (lu.step i k ((i3.2 _).1 lZ) hk)
    ·right;have:∃i,i<l.length/\a8 (uU l m r) i=true/\∃k,k<(dC (a8 l i)).length/\¬a8 (uU l m r) (a8 (dC (a8 l i)) k).toNat=true:=by
      apply Classical.byContradiction;intro hn;apply hc;intro i hi lZ k hk;apply Classical.byContradiction;intro hk2;exact hn ⟨i,hi,lZ,k,hk,hk2⟩
     obtain⟨i,hi,lZ,k,hk,hk2⟩:=this;have:=mZ (uU l m r) (uU l m (r+1)) (by rw[kK,kK]) p1 _ (by simpa using hk2) (p2 i hi lZ k hk);omega
 obtain⟨b1,b2,b3⟩:=base l.length;rcases b3 with b3|b3
 ·exact b3
 ·have:=kR (uU l m l.length);rw[kK,hm] at this;omega
def km (m:List Bool):Nat->List Int
 |0=>[]
 |k+1=>if a8 m k=true then km m k++[(k:Int)] else km m k
theorem ns (m:List Bool):∀k,(km m k).length<=k
 |0=>adw _
 |k+1=>by
  have:=ns m k;unfold km;split
  ·rw[ado];simp;omega
  ·omega
theorem Vx {l:List aT} (hl:l.length<=32) (h:∀j,j<l.length->fb l j=true) {s:Nat} (hs:s<l.length):∃m,PM l s m/\QD l (s:Int)=some (km m l.length):=by
 have hb:∀{k:Nat->Option (List Int)},T.b_ 1073741824 l.length k=k l.length:=by
  intro k;rw[T.d4,adh,adx]
 generalize Cn:ae (bd l.length false) s true=m0;have e0:(bd l.length false).length=l.length:=adz;have qc:m0.length=l.length:=by rw[<-Cn,cM,e0]
 have eR:∀x,a8 m0 x=true↔x=s:=by
  intro x;rw[<-Cn,dd (by rw[e0];exact hs)];split
  ·rename_i e;exact⟨λ_=>e.symm,λ_=>rfl⟩
  ·rename_i e;refine⟨λhx=> ?_,λhx=>absurd hx.symm e⟩
   by_cases hx':x<l.length
   ·rw[bz (by rw[e0];exact hx')] at hx;simp[bd] at hx
   ·rw[dJ (by rw[e0];omega)] at hx;cases hx
 refine⟨uU l m0 l.length,XG h hs qc ((eR s).2 rfl) (λx hx=>by rw[(eR x).1 hx];exact lu.here),?_⟩;unfold QD;rw[hb,ak,adp (by rw[e0];exact hs),Cn];rw[aV (λr=>((r:Int),uU l m0 r)) l.length (uU l m0 l.length) ?_ ade ?_ ?_]
 ·have xJ:(uU l m0 l.length).length=l.length:=by rw[kK,qc]
  generalize uU l m0 l.length=m at xJ⊢;rw[aV (λk=>((k:Int),km m k)) l.length (km m l.length) ?_ ade ?_ ?_]
  ·rfl
  ·intro k hk;have:=ns m k;have hk':k<m.length:=ade;simp only[cZ,hk,hk',ao,ads,adA,ak,aU (show k<9223372036854775807 by omega),km];split
   ·rw[aY (by rw[ay];omega)];rfl
   ·rfl
  ·simp only[ba,ao];rfl
 ·rfl
 ·intro r hr;simp only[cZ,hr,ao,ads,adA];have xJ:(uU l m0 r).length=l.length:=by rw[kK,qc]
  rw[show uU l m0 (r+1)=gA l (uU l m0 r) l.length from rfl];generalize uU l m0 r=m at xJ⊢;rw[aV (λj=>((j:Int),gA l m j)) l.length (gA l m l.length) ?_ ade ?_ ?_]
  ·rw[aU ade];rfl
  ·rfl
  ·intro j hj;have ho:=dq (h j hj);simp only[cZ,hj,ads,adA,ak,VW ho,a9];have x_:(gA l m j).length=l.length:=by rw[lP,xJ]
   have n_:=Hi (a8 l j);have uh:=ho.n;have fe:∀k,k<(dC (a8 l j)).length->0<=a8 (dC (a8 l j)) k/\a8 (dC (a8 l j)) k<l.length:=λk hk=>EU ho hj hk
   rw[show gA l m (j+1)=if a8 (gA l m j) j=true then jy (gA l m j) (dC (a8 l j)) (dC (a8 l j)).length else gA l m j from rfl];generalize gA l m j=m' at x_⊢;generalize dC (a8 l j)=d at n_ fe⊢
   by_cases hc:a8 m' j=true
   ·rw[adp hc];rw[aV (λk=>((k:Int),jy m' d k)) d.length (jy m' d d.length) ?_ ade ?_ ?_]
    ·rw[aU ade];rfl
    ·rfl
    ·intro k hk;have Yu:j<(jy m' d k).length:=by rw[k9,x_];exact hj
     have Ts:a8 (jy m' d k) j=true:=(sW (λk hk=>by have:=fe k hk;omega) k ade j).2 (Or.inl hc);obtain⟨h1,h2⟩:=fe k hk;simp only[cZ,hk,Yu,Ts,ads,adA,ak,join_some];rw[bE h1 (by rw[k9];omega),aU ade];rfl
    ·simp only[ba];rfl
   ·rw[adq hc];rw[aV (λk=>((k:Int),m')) 0 m' ?_ ade ?_ ?_]
    ·rw[aU ade];rfl
    ·rfl
    ·intro k hk;exact absurd hk (adS _)
    ·have hj':j<m'.length:=by omega
     have hf:a8 m' j=false:=by simpa using hc
     simp only[ak,hj',adA,hf]
     by_cases hd:0<d.length
     ·have:aO ((0:Nat):Int) d.length=true:=by rw[aE];exact adf
      rw[this];rfl
     ·have:aO ((0:Nat):Int) d.length=false:=by rw[aE];exact adg
      rw[this];rfl
  ·simp only[ba];rfl
 ·simp only[ba,ao];rfl
def kL (m:List Bool) (st d:List Int):Nat->List Bool×List Int
 |0=>(m,st)
 |k+1=>if a8 (kL m st d k).1 (a8 d k).toNat=true then kL m st d k else(ae (kL m st d k).1 (a8 d k).toNat true,(kL m st d k).2++[a8 d k])
theorem xj {m:List Bool} {st d:List Int} {n:Nat} (hm:m.length=n) (hd:∀k,k<d.length->0<=a8 d k/\a8 d k<n):∀k,k<=d.length->
 (kL m st d k).1.length=n/\(∀j,a8 m j=true->a8 (kL m st d k).1 j=true)/\(∀j,a8 (kL m st d k).1 j=true->a8 m j=true\/(∃i,i<k/\(a8 d i).toNat=j)/\(j:Int)∈(kL m st d k).2)/\(∀i,i<k->a8 (kL m st d k).1 (a8 d i).toNat=true)/\
 (∀x∈(kL m st d k).2,x∈st\/(0<=x/\x<n/\a8 (kL m st d k).1 x.toNat=true))/\(∀x∈st,x∈(kL m st d k).2)/\2*(n-oH (kL m st d k).1)+(kL m st d k).2.length<=2*(n-oH m)+st.length
 |0,_=>⟨hm,λ_ h=>h,λ_ h=>Or.inl h,λi hi=>absurd hi (adS _),λx hx=>Or.inl hx,λx hx=>hx,adw _⟩
 |k+1,hk=>by
  obtain⟨i1,i2,i3,i4,i5,i6,i7⟩:=xj (st:=st) hm hd k ade;obtain⟨d1,d2⟩:=hd k ade;unfold kL
  by_cases hc:a8 (kL m st d k).1 (a8 d k).toNat=true
  ·rw[adp hc];refine⟨i1,i2,λj hj=> ?_,λi hi=> ?_,i5,i6,i7⟩
   ·rcases i3 j hj with h|⟨⟨i,h1,h2⟩,h3⟩
    ·exact Or.inl h
    ·exact Or.inr ⟨⟨i,ade,h2⟩,h3⟩
   ·by_cases e:i=k
    ·subst e;exact hc
    ·exact i4 i ade
  ·rw[adq hc];have hs:=λj=>dd (l:=(kL m st d k).1) (i:=(a8 d k).toNat) (j:=j) (x:=true) ade
   have mono:∀j,a8 (kL m st d k).1 j=true->a8 (ae (kL m st d k).1 (a8 d k).toNat true) j=true:=λj hj=>by
    rw[hs];split
    ·rfl
    ·exact hj
   dsimp only;refine⟨by rw[cM];exact i1,λj hj=>mono j (i2 j hj),λj hj=> ?_,λi hi=> ?_,λx hx=> ?_,λx hx=>adC.2 (Or.inl (i6 x hx)),?_⟩
   ·rw[hs] at hj;split at hj
    ·rename_i e;refine Or.inr ⟨⟨k,ade,e⟩,adC.2 (Or.inr ?_)⟩;rw[adF];omega
    ·rcases i3 j hj with h|⟨⟨i,h1,h2⟩,h3⟩
     ·exact Or.inl h
     ·exact Or.inr ⟨⟨i,ade,h2⟩,adC.2 (Or.inl h3)⟩
   ·by_cases e:i=k
    ·subst e;rw[hs,adp rfl]
    ·exact mono _ (i4 i ade)
   ·rcases adC.1 hx with hx|hx
    ·rcases i5 x hx with h|⟨h1,h2,h3⟩
     ·exact Or.inl h
     ·exact Or.inr ⟨h1,h2,mono _ h3⟩
    ·rw[adF] at hx;subst hx;exact Or.inr ⟨d1,d2,by rw[hs,adp rfl]⟩
   ·have c1:=mZ (kL m st d k).1 (ae (kL m st d k).1 (a8 d k).toNat true) (by rw[cM]) mono _ (by simpa using hc) (by rw[hs,adp rfl]);have c2:=kR (ae (kL m st d k).1 (a8 d k).toNat true);rw[cM] at c2;rw[ado,adJ];omega
theorem oy {α:Type} [Zr α] {l:List α} {i:Nat} (h:l.length=i+1) {x:α} (hx:x∈l):x∈av i l\/x=a8 l i:=by
 obtain⟨j,hj,rfl⟩:=List.getElem_of_mem hx
 by_cases e:j<i
 ·left;show l[j]∈l.take i;rw[List.mem_take_iff_getElem];exact⟨j,ade,rfl⟩
 ·have:j=i:=by omega
  subst this;right;rw[bz hj]
theorem qT {E ρ:Type} {P:E->Prop} {x:Option ρ} {kx:E->Option ρ} (R:ρ->Prop) (h:∀e,P e->∃r,R r/\kx e=some r) (H:∃e,P e/\x=kx e):∃r,R r/\x=some r:=by
 obtain⟨e,he,hx⟩:=H;obtain⟨r,hr,hk⟩:=h e he;exact⟨r,hr,hx.trans hk⟩
theorem Wa {l:List aT} (hl:l.length<=32) (h:∀j,j<l.length->fb l j=true) {s:Nat} (hs:s<l.length):∃m,PM l s m/\R4 l (s:Int) true=some m:=by
 have hb:∀{k:Nat->Option (List Bool)},T.b_ 1073741824 l.length k=k l.length:=by
  intro k;rw[T.d4,adh,adx]
 generalize Cn:ae (bd l.length false) s true=m0;have e0:(bd l.length false).length=l.length:=adz;have qc:m0.length=l.length:=by rw[<-Cn,cM,e0]
 have eR:∀x,a8 m0 x=true↔x=s:=by
  intro x;rw[<-Cn,dd (by rw[e0];exact hs)];split
  ·rename_i e;exact⟨λ_=>e.symm,λ_=>rfl⟩
  ·rename_i e;refine⟨λhx=> ?_,λhx=>absurd hx.symm e⟩
   by_cases hx':x<l.length
   ·rw[bz (by rw[e0];exact hx')] at hx;simp[bd] at hx
   ·rw[dJ (by rw[e0];omega)] at hx;cases hx
 unfold R4;rw[hb,ak,adp (by rw[e0];exact hs),Cn];refine qT (λe=>PM l s e) (λe he=>⟨e,he,rfl⟩) (oe (S:=List Bool×List Int) (E:=List Bool) (Q:=List Bool) (ρ:=List Bool)
  (f:=λv2=>(af (aO 0 v2.2.length) (λ_=>(ai v2.2.length (bq 3 v2.2.length 1) (λv3=>(b_ v2.2.length (bq 3 v2.2.length 1) (λv4=>(ai l.length (a8 v2.2 v3) (λv5=>(bind (MP (a8 l v5) true) (λv6=>(loop (Int×((List Bool)×(List Int))) ((List Bool)×(List Int)) (List Bool) (λv7=>(af (aO v7.1 v6.length) (λ_=>(ai v6.length v7.1 (λv8=>(ai v7.2.1.length (a8 v6 v8) (λv9=>(af (an (a8 v7.2.1 v9)) (λ_=>(bj (aJ v7.2.2.length 1) (ai v7.2.1.length (a8 v6 v8) (λv10=>(bh ((ab 3 v7.1 1),(ae v7.2.1 v10 true),(aw v7.2.2 [(a8 v6 v8)]))))))) λ_=>(bh ((ab 3 v7.1 1),v7.2.1,v7.2.2)))))))) λ_=>(lex (v7.2.1,v7.2.2)))) (0,v2.1,(av v4 v2.2)) (λv7=>(bh (v7.1,v7.2))) (λv7=>none))))))))))) λ_=>(lex v2.1)))
  (s:=(m0,[(s:Int)])) (kx:=λv2=>(some v2)) (kr:=λ_=>none)
  (λp=>p.1.length=l.length/\a8 p.1 s=true/\(∀x,a8 p.1 x=true->lu l s x)/\(∀x∈p.2,0<=x/\x<l.length/\a8 p.1 x.toNat=true)/\(∀i,i<l.length->a8 p.1 i=true->(i:Int)∈p.2\/∀k,k<(dC (a8 l i)).length->a8 p.1 (a8 (dC (a8 l i)) k).toNat=true)/\2*(l.length-oH p.1)+p.2.length<=2*l.length)
  (PM l s) (λp=>2*(l.length-oH p.1)+p.2.length) ?_ ?_ ?_)
 ·refine⟨qc,(eR s).2 rfl,λx hx=>by rw[(eR x).1 hx];exact lu.here,λx hx=> ?_,λi hi lZ=> ?_,?_⟩
  ·rw[adF] at hx;subst hx;exact⟨ade,ade,(eR _).2 ade⟩
  ·left;rw[(eR i).1 lZ];exact adF.2 rfl
  ·have:=mZ (List.replicate m0.length false) m0 (by simp) (λj hj=> ?_) s ?_ ((eR s).2 rfl)
   ·have:=kR m0;simp only[adJ];omega
   ·by_cases hj':j<m0.length
    ·rw[bz (by simpa using hj')] at hj;simp at hj
    ·rw[dJ (by simp;omega)] at hj;cases hj
   ·rw[bz (by simp;omega)];simp
 ·have:=kR m0;simp only[adJ];omega
 ·rintro⟨m,st⟩ ⟨I1,I2,I3,I4,I5,I6⟩;dsimp only at I1 I2 I3 I4 I5 I6⊢
  by_cases kY:0<st.length
  ·left;obtain⟨q,hq⟩:∃q,st.length=q+1:=⟨st.length-1,ade⟩;have kD:a8 st q∈st:=by rw[bz ade];exact adT _
   obtain⟨a1,a2,a3⟩:=I4 _ kD;have sb:bq 3 st.length 1=(q:Int):=by rw[cD ade ade];omega
   have ho:=dq (h (a8 st q).toNat ade);have fe:∀k,k<(dC (a8 l (a8 st q).toNat)).length->0<=a8 (dC (a8 l (a8 st q).toNat)) k/\a8 (dC (a8 l (a8 st q).toNat)) k<l.length:=λk hk=>EU ho ade hk
   have n_:=Hi (a8 l (a8 st q).toNat);have hn:=ho.n;have qf:(av q st).length=q:=by show(st.take q).length=q;rw[adY];omega
   rw[aD (by rw[aE];exact adf),sb,ak,adh,T.d4,adh,bE a1 a2,Wo ade,a9,adx];obtain⟨s1,s2,s3,s4,s5,s6,s7⟩:=xj (m:=m) (st:=av q st) I1 fe _ (adw _);refine⟨kL m (av q st) (dC (a8 l (a8 st q).toNat)) (dC (a8 l (a8 st q).toNat)).length,?_,⟨s1,s2 _ I2,λx hx=> ?_,λx hx=> ?_,λi hi lZ=> ?_,ade⟩,ade⟩
   ·generalize hd:dC (a8 l (a8 st q).toNat)=d at fe n_ s1 s2 s3 s4 s5 s6 s7⊢;rw[aV (λk=>((k:Int),(kL m (av q st) d k).1,(kL m (av q st) d k).2)) d.length (kL m (av q st) d d.length) ?_ ade ?_ ?_]
    ·rfl
    ·rfl
    ·intro k hk;obtain⟨b1,b2⟩:=fe k hk;obtain⟨t1,t2,t3,t4,t5,t6,t7⟩:=xj (m:=m) (st:=av q st) I1 fe k ade;simp only[cZ,hk,ao,ads,adA,ak];rw[bE b1 ade,aU ade,bE b1 ade,aY (by rw[ay];omega)];rw[show kL m (av q st) d (k+1)=if a8 (kL m (av q st) d k).1 (a8 d k).toNat=true then kL m (av q st) d k else(ae (kL m (av q st) d k).1 (a8 d k).toNat true,(kL m (av q st) d k).2++[a8 d k]) from rfl]
     by_cases hc:a8 (kL m (av q st) d k).1 (a8 d k).toNat=true
     ·rw[adp hc,adq (by rw[hc];decide)];rfl
     ·have hf:a8 (kL m (av q st) d k).1 (a8 d k).toNat=false:=by simpa using hc
      rw[adq hc,adp (by rw[hf];rfl)];rfl
    ·simp only[ba];rfl
   ·rcases s3 x hx with hx|⟨⟨k,hk,rfl⟩,_⟩
    ·exact I3 x hx
    ·exact lu.step _ k (I3 _ a3) hk
   ·rcases s5 x hx with hx|hx
    ·have:=I4 x (List.mem_of_mem_take hx);exact⟨this.1,this.2.1,s2 _ this.2.2⟩
    ·exact hx
   ·rcases s3 i lZ with lZ|⟨_,fe⟩
    ·rcases I5 i hi lZ with j6|j6
     ·rcases oy hq j6 with h3|h3
      ·exact Or.inl (s6 _ h3)
      ·right;have e:i=(a8 st q).toNat:=ade;intro k hk;subst e;exact s4 k hk
     ·exact Or.inr λk hk=>s2 _ (j6 k hk)
    ·exact Or.inl fe
  ·right;have ER:st=[]:=aeh ade;subst ER;refine⟨m,?_,KE h hs I1 I2 I3 λi hi lZ=> ?_⟩
   ·rw[aC (by rw[aE];exact adl (by simp))];rfl
   ·rcases I5 i hi lZ with h1|h1
    ·cases h1
    ·exact h1
theorem Wn (x:Int):Ra [x]=some x/\Rb [x]=some x:=by
 have e1:aO (([x].length:Nat):Int) 1=false:=by rw[aE];rfl
 constructor
 ·unfold Ra;rw[e1,aC rfl,join_some,show(0:Int)=((0:Nat):Int) from rfl,ak,adp (by simp)];rw[aV (λk=>(x,((k+1:Nat):Int))) 0 x ?_ ade ?_ ?_]
  ·rfl
  ·intro k hk;exact absurd hk (adS _)
  ·rw[aC (by rw[aE];rfl)];rfl
 ·unfold Rb;rw[e1,aC rfl,join_some,show(0:Int)=((0:Nat):Int) from rfl,ak,adp (by simp)];rw[aV (λk=>(x,((k+1:Nat):Int))) 0 x ?_ ade ?_ ?_]
  ·rfl
  ·intro k hk;exact absurd hk (adS _)
  ·rw[aC (by rw[aE];rfl)];rfl
theorem LG {l:List aT} (hf:Fit (.sl ca) l) (hk:fm l=0) {s:Nat} (hs:s<l.length):∃m,PM l s m/\QS l (s:Int)=some (km m l.length,0):=by
 obtain⟨z1,z2⟩:=cw hk;obtain⟨m,hm,e⟩:=Wa z1 z2 hs;refine⟨m,hm,?_⟩;unfold QS W9;rw[vF hf,hk];obtain⟨e1,e2⟩:=Wn (s:Int);have j1:aO (s:Int) 0=false:=by rw[aE];exact adg
 have j2:cB l.length (s:Int)=false:=by rw[aN];exact adg
 simp only[a9,cE,aC,e1,e2,j1,j2,join_some,e];have qc:=hm.1;rw[aV (λk=>((k:Int),km m k)) m.length (km m m.length) ?_ ade ?_ ?_]
 ·rw[qc]
 ·rfl
 ·intro k hk;have:=ns m k;simp only[cZ,hk,ao,ads,adA,ak,aU (show k<9223372036854775807 by omega),km];split
  ·rw[aY (by rw[ay];omega)];rfl
  ·rfl
 ·simp only[ba,ao];rfl
open Classical in
noncomputable def XE (l:List aT) (s:Nat):List Bool:=if h:∃m,PM l s m then Classical.choose h else[]
theorem A_ {l:List aT} {s:Nat} {m:List Bool} (h:PM l s m):XE l s=m:=by
 have h':∃m,PM l s m:=⟨m,h⟩;unfold XE;rw[dif_pos h'];exact YQ (Classical.choose_spec h') h
theorem uL (m:List Bool):∀n,∀x∈km m n,0<=x/\x<(n:Int)
 |0,x,hx=>by cases hx
 |n+1,x,hx=>by
  unfold km at hx;split at hx
  ·rcases adC.1 hx with hx|hx
   ·have:=uL m n x hx;omega
   ·rw[adF] at hx;omega
  ·have:=uL m n x hx;omega
theorem HO {l:List aT} {t:Int} (hk:fm l=0) (h0:0<=t) (h1:t<l.length) (h:iz l t≠0):iz l t=16:=by
 unfold iz at*;rw[adp hk,adi] at*;split
 ·rfl
 ·rename_i hn;rw[adq hn] at h;exact absurd rfl h
theorem Be {l:List aT} {t:Int} (h:iz l t=0):fm l=0/\0<=t/\t<l.length:=by
 unfold iz at h;split at h
 ·rename_i hk;split at h
  ·cases h
  ·exact⟨hk,ade,ade⟩
 ·cases h
noncomputable def Dd (l:List aT) (t:Int):List Int:=km (XE l t.toNat) l.length
noncomputable def xO (l:List aT) (t:Int):Int:=if iz l t=0 then(if(List.range (Dd l t).length).all (λk=>decide (iz l (a8 (Dd l t) k)=0))=true then 0 else 16) else iz l t
theorem Bg (l:List aT) (t:Int):(s_ l t).2.2=iz l t:=by
 unfold s_;split
 ·rename_i h;exact h.symm
 ·rfl
theorem Vo {l:List aT} (hf:Fit (.sl ca) l) (t:Int):Qu l t=some (if xO l t=0 then(s_ l t).1 else 0,xO l t):=by
 unfold Qu;rw[sj hf,a9,Bg]
 by_cases h0:iz l t=0
 ·obtain⟨hk,h1,h2⟩:=Be h0;obtain⟨s,rfl⟩:∃s:Nat,t=s:=⟨t.toNat,ade⟩;obtain⟨m,hm,e⟩:=LG hf hk (s:=s) ade;have eL:Dd l (s:Int)=km m l.length:=by unfold Dd;rw[adx,A_ hm]
  rw[aC (cQ h0),e,a9];unfold xO;rw[adp h0,eL];have fe:=uL m l.length;have hlen:=ns m l.length;have hl:=hf.len;generalize km m l.length=L at fe hlen⊢;rw[bA L.length (λk=>decide (iz l (a8 L k)=0)) (0,16) () ade ?_ ?_]
  ·split<;>simp
  ·intro k hk';have hx:=fe (a8 L k) (by rw[bz hk'];exact adT _);simp only[cZ,hk',ao,ads,adA,ak,sj hf,a9,Bg,aU (show k<9223372036854775807 by omega)]
   by_cases hz:iz l (a8 L k)=0
   ·rw[adq (by rw[cQ hz];decide),adp (adm hz)];rfl
   ·rw[adp (bG hz),adq (by simpa using hz),HO hk hx.1 hx.2 hz];rfl
  ·rw[ba];rfl
 ·unfold xO;rw[adq h0,adq h0,aD (bG h0)]
theorem Vb {l:List aT} (hf:Fit (.sl ca) l) {n:Nat} (hn:3<n) (t:Int):KZ n l t=some (xO l t):=by
 unfold KZ;rw[E8 hf hn,a9,Bg]
 by_cases h0:iz l t=0
 ·obtain⟨hk,h1,h2⟩:=Be h0;obtain⟨z1,z2⟩:=cw hk;obtain⟨s,rfl⟩:∃s:Nat,t=s:=⟨t.toNat,ade⟩;obtain⟨m,hm,e⟩:=Vx z1 z2 (s:=s) ade;have eL:Dd l (s:Int)=km m l.length:=by unfold Dd;rw[adx,A_ hm]
  rw[aC (cQ h0),e,a9];unfold xO;rw[adp h0,eL];have fe:=uL m l.length;have hlen:=ns m l.length;generalize km m l.length=L at fe hlen⊢;rw[bA L.length (λk=>decide (iz l (a8 L k)=0)) 16 () ade ?_ ?_]
  ·split<;>rfl
  ·intro k hk';have hx:=fe (a8 L k) (by rw[bz hk'];exact adT _);simp only[cZ,hk',ao,ads,adA,ak,E8 hf hn,a9,Bg,aU (show k<9223372036854775807 by omega)]
   by_cases hz:iz l (a8 L k)=0
   ·rw[adq (by rw[cQ hz];decide),adp (adm hz)];rfl
   ·rw[adp (bG hz),adq (by simpa using hz),HO hk hx.1 hx.2 hz];rfl
  ·rw[ba];rfl
 ·unfold xO;rw[adq h0,aD (bG h0)]
def qm (x:aX) (i:Int):List Int:=
 if x.1=34\/x.1=28\/x.1=30 then[] else if x.1=22 then[x.2.1]
 else if x.1=23 then(if x.2.2.1=i+1 then[i+1] else[min (i+1) x.2.2.1,max (i+1) x.2.2.1]) else[i+1]
theorem EA {l:List aX} (hl:l.length<=5000) {i:Nat} (hi:i<l.length):xT l (i:Int)=some (qm (a8 l i) i):=by
 unfold xT qm;rw[ak,adp hi,c8 ade ade];simp only[ao,aE,aN,aG,aW,aZ,ax,bc,aA,bg,a9,au,join_some,join_none,ak,aI,aF,ay,aS,adk,adn,adj,l6,ny];grind
set_option maxRecDepth 100000 in
theorem Ws:Rg 2=some 2:=by
 have e1:gf 4294967296 2=false:=by rw[aZ];rfl
 have e2:gf 65536 2=false:=by rw[aZ];rfl
 have e3:gf 256 2=false:=by rw[aZ];rfl
 have e4:lF 4 2=2:=zZ ade;unfold Rg;rw[e1,aC rfl,join_some,e2,aC rfl,join_some,e3,aC rfl,join_some,e4,T.A1,adp (by decide)];have e5:T.dH 3 (2:Nat)=2:=gk ade;exact congrArg some ((congrArg (T.ab 3 0) e5).trans (by rw[c8 ade ade];rfl))
theorem fX {ρ:Type} {n:Nat} (k:Nat->Option ρ) (h:0<n):T.ai n 0 k=k 0:=by rw[aI,adp h]
theorem Q6 {ρ:Type} {n:Nat} (k:Nat->Option ρ) (h:1<n):T.ai n 1 k=k 1:=by rw[show(1:Int)=((1:Nat):Int) from rfl,ak,adp h]
theorem FU {ρ:Type} {n:Nat} (k:Nat->Option ρ) (h:1<=n):T.b_ n 1 k=k 1:=by rw[T.d4,adh];rfl
theorem Q3 {ρ:Type} {n:Nat} (k:Nat->Option ρ) (h:2<=n):T.b_ n 2 k=k 2:=by rw[T.d4,adh];rfl
theorem BT {l:List aX} {i:Nat} (hi:i<l.length) (hl:l.length<=5000) (h:(a8 l i).1=23) (hb:xH (a8 l i).2.2.1):pz l (i:Int)=some (qm (a8 l i) i):=by
 unfold pz qm;rw[ak,adp hi];generalize a8 l i=t at h hb⊢;have a1:ab 3 (i:Int) 1=(i:Int)+1:=c8 ade ade;rw[a1];generalize(i:Int)+1=a;generalize t.2.2.1=b;have n1:ab 3 0 1=1:=by rw[c8 ade ade];rfl
 have n2:bq 3 1 1=0:=by rw[cD ade ade];rfl
 have n3:ab 3 1 1=2:=by rw[c8 ade ade];rfl
 have n4:bq 3 2 0=2:=by rw[cD ade ade];rfl
 have n5:bq 3 2 1=1:=by rw[cD ade ade];rfl
 have n6:Rf (bF 7 (2:Int))=some 2:=by
  rw[show(2:Int)=((2:Nat):Int) from rfl,ky ade];unfold Rf;rw[Ws];rfl
 have n7:aO 0 1=true:=by rw[aE];rfl
 have n8:aO 0 0=false:=by rw[aE];rfl
 have n9:aO 1 2=true:=by rw[aE];rfl
 have n10:aO 2 2=false:=by rw[aE];rfl
 have n11:cB 2 12=true:=by rw[aN];rfl
 have n12:cB 1 2=true:=by rw[aN];rfl
 have n13:bm 2 0=false:=by rw[aG];rfl
 have n14:aO 2 0=false:=by rw[aE];rfl
 have n15:bm 0 0=true:=by rw[aG];rfl
 have k1:aR t.1 34=false:=by rw[ax,h];rfl
 have k2:aR t.1 28=false:=by rw[ax,h];rfl
 have k3:aR t.1 30=false:=by rw[ax,h];rfl
 have k4:aR t.1 22=false:=by rw[ax,h];rfl
 have k5:aR t.1 23=true:=by rw[ax,h];rfl
 have m0:∀x y:Int,a8 [x,y] 0=x:=λ_ _=>rfl
 have m1:∀x y:Int,a8 [x,y] 1=y:=λ_ _=>rfl
 have s0:∀x y z:Int,ae [x,y] 0 z=[z,y]:=λ_ _ _=>rfl
 have s1:∀x y z:Int,ae [x,y] 1 z=[x,z]:=λ_ _ _=>rfl
 have ln:∀x y:Int,[x,y].length=2:=λ_ _=>rfl
 have eb:∀x:Int,bm x x=true:=λx=>by rw[aG];exact adm rfl
 have nt:an true=false:=rfl;have nf:an false=true:=rfl;have ct:∀{ρ:Type} (a b:Unit->Option ρ),T.af true a b=a ():=λ_ _=>rfl
 have cf:∀{ρ:Type} (a b:Unit->Option ρ),T.af false a b=b ():=λ_ _=>rfl
 rw[adi,adi,adp h];have z0:((0:Nat):Int)=0:=rfl;have z1:((1:Nat):Int)=1:=rfl;have z2:((2:Nat):Int)=2:=rfl;have u1:bt 2 1=1:=rfl;have u2:bt 2 2=0:=rfl;have u3:aJ 1 0=1:=rfl;have u4:aJ 1 1=2:=rfl;have u5:aO 1 1=false:=by rw[aE];rfl
 have c0:∀{ρ:Type} (k:Nat->Option ρ),T.ai 2 0 k=k 0:=λk=>fX k ade
 have c1:∀{ρ:Type} (k:Nat->Option ρ),T.ai 2 1 k=k 1:=λk=>Q6 k ade
 have b1:∀{ρ:Type} (k:Nat->Option ρ),T.b_ 2 1 k=k 1:=λk=>FU k ade
 have b2:∀{ρ:Type} (k:Nat->Option ρ),T.b_ 2 2 k=k 2:=λk=>Q3 k ade
 rcases Int.lt_trichotomy a b with Yk|Yk|Yk
 ·have l1:aO b a=false:=by rw[aE];exact adg
  have l2:aO a b=true:=by rw[aE];exact adm Yk
  have l3:bm a b=false:=by rw[aG];exact adg
  have l4:bm b a=false:=by rw[aG];exact adg
  simp only[k1,k2,k3,k4,k5,n1,n2,n3,n4,n5,n6,n7,n8,n9,n10,n11,n12,n13,n14,n15,join_some,a9,m0,m1,s0,s1,ln,eb,nt,nf,ct,cf,c0,c1,b1,b2,z0,z1,z2,u1,u2,u3,u4,u5,l1,l2,l3,l4];rw[adi,Int.min_eq_left ade,Int.max_eq_right ade]
 ·subst Yk;have l1:aO a a=false:=by rw[aE];exact adg
  simp only[k1,k2,k3,k4,k5,n1,n2,n3,n4,n5,n6,n7,n8,n9,n10,n11,n12,n13,n14,n15,join_some,a9,m0,m1,s0,s1,ln,eb,nt,nf,ct,cf,c0,c1,b1,b2,z0,z1,z2,u1,u2,u3,u4,u5,l1];rw[adp trivial,FU _ (by simp[aw,av,bd,aH])];rfl
 ·have l1:aO b a=true:=by rw[aE];exact adm Yk
  have l2:aO a b=false:=by rw[aE];exact adg
  have l3:bm a b=false:=by rw[aG];exact adg
  have l4:bm b a=false:=by rw[aG];exact adg
  simp only[k1,k2,k3,k4,k5,n1,n2,n3,n4,n5,n6,n7,n8,n9,n10,n11,n12,n13,n14,n15,join_some,a9,m0,m1,s0,s1,ln,eb,nt,nf,ct,cf,c0,c1,b1,b2,z0,z1,z2,u1,u2,u3,u4,u5,l1,l2,l3,l4];rw[adi,Int.min_eq_right ade,Int.max_eq_left ade]
theorem EE {l:List aX} {i:Nat} (hi:i<l.length) (hl:l.length<=5000) (hb:xH (a8 l i).2.2.1):pz l (i:Int)=some (qm (a8 l i) i):=by
 by_cases h:(a8 l i).1=23
 ·exact BT hi hl h hb
 ·unfold pz qm;rw[ak,adp hi];have a1:ab 3 (i:Int) 1=(i:Int)+1:=c8 ade ade;rw[a1];rw[adq h];have k5:∀{ρ:Type} (a b:Unit->Option ρ),T.af (aR (a8 l i).1 23) a b=b ():=λ_ _=>aC (by rw[ax];exact adl h)
  rw[k5];generalize a8 l i=t;simp only[ao,aE,aN,aG,aW,aZ,ax,bc,aA,bg,a9,au,join_some,join_none,ak,aI,aF,ay,aS,adk,adn,adj];grind
def pP (x:aX):Int:=if x.1<35/\0<=(aM x.1).2/\(List.range 3).all (λi=>l_ (a8 (aM x.1).1 i) (a8 (opsL x) i))=true then 0 else 8
theorem su (x:aX):oL x=some (pP x):=by
 unfold pP
 by_cases hc:x.1<35
 ·rw[nX (l:=(aM x.1).1) (n:=(aM x.1).2) (nh hc)];grind
 ·rw[nX (vH ade),adp (by decide),adq (λh=>hc h.1)]
theorem Mw {x:aX} (h:kH x):Cb x=some (pP x):=by rw[<-JC x h,su]
theorem pQ {x:aX} (h:pP x=0):x.1<35/\∀i,i<3->(a8 (aM x.1).1 i).1<=a8 (opsL x) i/\a8 (opsL x) i<=(a8 (aM x.1).1 i).2.1:=by
 unfold pP at h;split at h
 ·rename_i h1;obtain⟨h1,-,h2⟩:=h1;refine⟨h1,λi hi=> ?_⟩;have:=adE.1 h2 i (adL.2 hi);simpa[l_] using this
 ·cases h
theorem FZ (x:aX) (y:aX):na x y=(decide (x.1=y.1)&&(decide (x.2.1=y.2.1)&&(decide (x.2.2.1=y.2.2.1)&&(decide (x.2.2.2.1=y.2.2.2.1)&&true)))):=by
 show(aR x.1 y.1&&(bm x.2.1 y.2.1&&(bm x.2.2.1 y.2.2.1&&(bm x.2.2.2.1 y.2.2.2.1&&true))))=_;simp only[ax,aG]
def N3 (n:Int) (x:aX):Bool:=(decide (x.1=22)&&decide (n<=x.2.1))||(decide (x.1=23)&&decide (n<=x.2.2.1))
def Jm (n:Int) (x:aX):Bool:=decide (pP x=0)&& !N3 n x
noncomputable def Hh (l:List aX):Bool:=na (a8 l (l.length-1)) (34,-1,0,0,())
noncomputable def je (l:List aX):Int:=if l.length=0\/200<l.length then 8 else if(Hh l&&(List.range l.length).all λi=>Jm l.length (a8 l i))=true then 0 else 8
theorem Ag {l:List aX} (hl:l.length<4611686018427387904):IV l=some (je l):=by
 unfold IV je
 by_cases hb:l.length=0\/200<l.length
 ·rw[adp hb];simp only[ao,aE,aN,aG,aW,aZ,ax,bc,aA,bg,a9,au,join_some,join_none,ak,aI,aF,ay,aS,adk,adn,adj];grind
 ·rw[adq hb];have s1:bq 3 l.length 1=((l.length-1:Nat):Int):=by rw[cD ade ade];omega
  have e1:bm l.length 0=false:=by rw[aG];exact adg
  have e2:aO 200 l.length=false:=by rw[aE];exact adg
  rw[e1,aC rfl,e2,aC rfl,s1,ak,adh,join_some];unfold Hh
  by_cases kD:na (a8 l (l.length-1)) (34,-1,0,0,())=true
  ·rw[kD,aC (c:=an true) rfl,adW];rw[bA l.length (λi=>Jm l.length (a8 l i)) 8 () ade ?_ ?_]
   ·split<;>rfl
   ·intro i hi;simp only[cZ,hi,ao,ads,adA,ak,su,a9,aA,aG,ax,aN,bh,bT,aU (show i<9223372036854775807 by omega)];unfold Jm N3;grind
   ·rw[ba];rfl
  ·have hf:na (a8 l (l.length-1)) (34,-1,0,0,())=false:=by simpa using kD
   rw[hf,aD (c:=an false) rfl];rfl
theorem O' {v:Int} (h:ix 3 v): -9223372036854775808<=v/\v<9223372036854775808:=by
 obtain⟨h1,h2⟩:=h;have h1: -18446744073709551616<=2*v:=h1;have h2:2*v<18446744073709551616:=h2;omega
theorem fp {x:aX} (h:Fit cK x):kH x:=by
 obtain⟨-,h1,h2,h3,-⟩:=h;have e:∀v:Int,ix 3 v->xH v:=λv hv=>by
  have:=O' hv;unfold xH;omega
 exact⟨e _ h1,e _ h2,e _ h3⟩
theorem VR {l:List aX} (hf:Fit (.sl cK) l):QV l=some (je l):=by
 have hl:=hf.len;unfold QV je
 by_cases hb:l.length=0\/200<l.length
 ·rw[adp hb];simp only[ao,aE,aN,aG,aW,aZ,ax,bc,aA,bg,a9,au,join_some,join_none,ak,aI,aF,ay,aS,adk,adn,adj];grind
 ·rw[adq hb];have s1:bq 3 l.length 1=((l.length-1:Nat):Int):=by rw[cD ade ade];omega
  have e1:aO l.length 1=false:=by rw[aE];exact adg
  have e2:aO 200 l.length=false:=by rw[aE];exact adg
  rw[e1,aC rfl,e2,join_some,aC rfl,s1];rw[bA l.length (λi=>Jm l.length (a8 l i)) 8 () ade ?_ ?_]
  ·have lt:l.length-1<l.length:=by omega
   rw[ak,adp lt];unfold Hh;cases na (a8 l (l.length-1)) (34,-1,0,0,()) with
   |true=>
    rw[aC (c:=an true) rfl,adW];split<;>rfl
   |false=>
    rw[aD (c:=an false) rfl,Bool.false_and];split<;>rfl
  ·intro i hi;simp only[cZ,hi,ao,ads,adA,ak,Mw (fp (hf.at hi)),a9,aA,aG,ax,aN,bh,bT,aU (show i<9223372036854775807 by omega)];unfold Jm N3;grind
  ·rw[ba];rfl
structure OkC (l:List aX):Prop where
 n:0<l.length/\l.length<=200
 b:∀i,i<l.length->∀k,k<(qm (a8 l i) i).length->0<=a8 (qm (a8 l i) i) k/\a8 (qm (a8 l i) i) k<l.length
 c:∀i,i<l.length->pP (a8 l i)=0
theorem lB (x:aX) (i:Int):(qm x i).length<=2:=by
 unfold qm;split
 ·simp
 ·split
  ·simp
  ·split
   ·split<;>simp
   ·simp
theorem jf {l:List aX} (h:je l=0):OkC l:=by
 unfold je at h;split at h
 ·cases h
 ·rename_i hn;split at h
  ·rename_i ha;rw[adr,adE] at ha;obtain⟨hl,ha⟩:=ha;have hi:∀i,i<l.length->pP (a8 l i)=0/\N3 l.length (a8 l i)=false:=λi hi=>by
    have:=ha i (adL.2 hi);simpa[Jm] using this
   refine⟨ade,λi K4 k hk=> ?_,λi K4=>(hi i K4).1⟩;obtain⟨h0,WV⟩:=hi i K4;obtain⟨hc,d6⟩:=pQ h0;have H8:(a8 l i).1≠34->i+1<l.length:=λh34=>by
    by_cases e:i+1<l.length
    ·exact e
    ·exfalso;have:i=l.length-1:=ade;subst this;unfold Hh at hl;rw[FZ] at hl;simp at hl;exact h34 hl.1
   generalize a8 l i=x at h0 WV hc d6 H8 hk⊢;unfold N3 at WV;simp only[ad',ae6,adj] at WV;unfold qm at hk⊢
   by_cases k1:x.1=34\/x.1=28\/x.1=30
   ·rw[adp k1] at hk;simp at hk
   ·rw[adq k1] at hk⊢;have hnx:=H8 ade
    by_cases k2:x.1=22
    ·rw[adp k2] at hk⊢;have Jd:k=0:=by simp at hk;exact hk
     subst Jd;have:=d6 0 ade;rw[k2] at this;have a0:(0:Int)<=x.2.1:=this.1;show 0<=x.2.1/\x.2.1<l.length;omega
    ·rw[adq k2] at hk⊢
     by_cases k3:x.1=23
     ·rw[adp k3] at hk⊢;have:=d6 1 ade;rw[k3] at this;have a0:(0:Int)<=x.2.2.1:=this.1
      by_cases k4:x.2.2.1=i+1
      ·rw[adp k4] at hk⊢;have Jd:k=0:=by simp at hk;exact hk
       subst Jd;show 0<=(i:Int)+1/\(i:Int)+1<l.length;omega
      ·rw[adq k4] at hk⊢;have Jd:k=0\/k=1:=by simp at hk;omega
       rcases Jd with rfl|rfl
       ·show 0<=min ((i:Int)+1) x.2.2.1/\min ((i:Int)+1) x.2.2.1<l.length;omega
       ·show 0<=max ((i:Int)+1) x.2.2.1/\max ((i:Int)+1) x.2.2.1<l.length;omega
     ·rw[adq k3] at hk⊢;have Jd:k=0:=by simp at hk;exact hk
      subst Jd;show 0<=(i:Int)+1/\(i:Int)+1<l.length;omega
  ·cases h
end Go.Proofs.YtbjcjppphoppfaaGreat.M
