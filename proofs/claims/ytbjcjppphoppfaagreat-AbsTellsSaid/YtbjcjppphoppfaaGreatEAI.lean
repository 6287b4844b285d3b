import Derived.Test.YtbjcjppphoppfaaGreatEAH
set_option linter.all false
namespace Go.Proofs.YtbjcjppphoppfaaGreat.T
open Go
noncomputable section
variable [pf]
def iI (rn rn':Rn):Prop:=∀k z,nth none rn k=some z->nth none rn' k=some z
theorem iI.refl (rn:Rn):iI rn rn:=λ_ _ h=>h
theorem iI.trans {a b c:Rn} (h:iI a b) (h':iI b c):iI a c:=λk z g=>h' k z (h k z g)
def gH (rn:Rn):Prop:=∀k1 k2 j n1 n2,nth none rn k1=some (j,n1)->nth none rn k2=some (j,n2)->k1=k2
theorem xw {j:Nat}:∀{rn:Rn},taken j rn=false->∀k n,nth none rn k≠some (j,n)
 |[],_,k,n,h=>by cases h
 |none::r,ht,k,n,h=>by
  cases k with
  |zero=>cases h
  |succ k=>exact xw (rn:=r) ht k n h
 |some (i,x)::r,ht,k,n,h=>by
  have ht:(Nat.beq i j||taken j r)=false:=ht;rw[ad'] at ht;cases k with
  |zero=>
   have h:some (i,x)=some (j,n):=h;cases h;rw[Nat.beq_refl] at ht;cases ht.1
  |succ k=>exact xw (rn:=r) ht.2 k n h
theorem re {k j:Nat} {n:Option N} {rn rn':Rn} (h:tN k j n rn=some rn'):iI rn rn'/\nth none rn' k=some (j,n)/\rn'.length=rn.length/\(gH rn->gH rn'):=by
 unfold tN at h;obtain⟨hc,h⟩:=mW h;rw[ad'] at hc;obtain⟨ht,hk⟩:=hc;have hk:k<rn.length:=by
  apply aeg;intro h';rw[Nat.ble_eq_true_of_le h'] at hk;cases hk
 have X3:=xw ht;split at h
 ·rename_i hn;cases h;refine⟨λi z hz=> ?_,by rw[cx,adp ⟨rfl,hk⟩],d5 _ _ _,λD k1 k2 i n1 n2 h1 h2=> ?_⟩
  ·rw[cx]
   by_cases e:i=k/\k<rn.length
   ·rw[e.1,hn] at hz;cases hz
   ·rw[adq e];exact hz
  ·rw[cx] at h1 h2
   by_cases e1:k1=k/\k<rn.length
   ·by_cases e2:k2=k/\k<rn.length
    ·rw[e1.1,e2.1]
    ·rw[adp e1] at h1;rw[adq e2] at h2;cases h1;exact absurd h2 (X3 _ _)
   ·rw[adq e1] at h1
    by_cases e2:k2=k/\k<rn.length
    ·rw[adp e2] at h2;cases h2;exact absurd h1 (X3 _ _)
    ·rw[adq e2] at h2;exact D k1 k2 i n1 n2 h1 h2
 ·cases h
theorem Qi {x y z:TV} (h:jQ x= .pr y z):x.cells=y.cells+z.cells/\x.ag=true/\k_ x=true/\∀(B:Bs) f o,Rp B x f o->Rp B y f o/\Rp B z f (o+y.cells):=by
 cases x with
 |pr a b=>cases h;exact⟨rfl,rfl,rfl,λB f o hr=>hr⟩
 |v t v=>
  cases t with
  |pr a c=>cases h;exact⟨rfl,rfl,rfl,λB f o hr=>hr⟩
  |gv=>
   cases h;refine⟨rfl,rfl,rfl,λB f o hr=> ?_⟩;obtain⟨h1,h2,h3,h4,h5,_⟩:=(uT _ _ v f o).1 hr;exact⟨h1,h2,h3,h4,h5,trivial⟩
  |_=>cases h
 |_=>cases h
inductive rT (h:List TE):Md->TV->Rn->List TV->List Nat->Rn->Prop
 |bU (x:TV) (rn:Rn) (hc:x.cells=1):rT h .bU x rn [] [] rn
 |un (x:TV) (rn:Rn) (hc:x.cells=0) (ha:x.ag=true):rT h .un x rn [] [] rn
 |v (t:Ty) (x:TV) (y:t.T) (rn:Rn) (hp:t.pos=true) (hs:ly h t x y):rT h (.v t) x rn [.v t y] (ids x) rn
 |q (t:Ty) (y:t.T) (rn:Rn):rT h (.q t) (.q t y) rn [.v t y] [] rn
 |r (k j:Nat) (rn rn1:Rn) (hr:tN k j none rn=some rn1):rT h (.r k) (.r j) rn [] [] rn1
 |rn (k j:Nat) (n:N) (rn rn1:Rn) (hr:tN k j (some n) rn=some rn1):rT h (.r k) (.rn j n) rn [] [] rn1
 |own (j:Nat) (rn:Rn) (hs:(nth .bu h j).st=2):rT h (.own j) (.r j) rn [] [] rn
 |pr (a b:Md) (x y z:TV) (rn:Rn) (l:List TV) (i:List Nat) (rn1:Rn) (m:List TV) (i':List Nat) (rn2:Rn) (e:jQ x= .pr y z) (h1:rT h a y rn l i rn1) (h2:rT h b z rn1 m i' rn2):rT h (.pr a b) x rn (l++m) (i++i') rn2
theorem r6 {h:List TE}:∀(md:Md) (x:TV) (rn:Rn) {l:List TV} {is:List Nat} {rn1:Rn},proj h md x rn=some (l,is,rn1)->rT h md x rn l is rn1
 | .bU,x,rn,l,is,rn1,e=>by
   obtain⟨hb,e⟩:=aQ (show(bif Nat.beq x.cells 1 then some (([]:List TV),([]:List Nat),rn) else none)=some (l,is,rn1) from e);cases e;exact .bU x rn (adu hb)
 | .un,x,rn,l,is,rn1,e=>by
   obtain⟨hb,e⟩:=aQ (show(bif Nat.beq x.cells 0&&x.ag then some (([]:List TV),([]:List Nat),rn) else none)=some (l,is,rn1) from e);cases e;rw[adr] at hb;exact .un x rn (adu hb.1) hb.2
 | .v t,x,rn,l,is,rn1,e=>by
   obtain⟨hp,e⟩:=aQ (show(bif t.pos then(match tU h x t with|some y=>some ([TV.v t y],ids x,rn)|none=>none) else none)=some (l,is,rn1) from e);split at e
   ·rename_i y hy;cases e;exact .v t x y rn hp (du t x hy)
   ·cases e
 | .q t,x,rn,l,is,rn1,e=>by
   cases x with
   |q σ v=>
    have e:(match dy σ t v with|some y=>some ([TV.v t y],([]:List Nat),rn)|none=>none)=some (l,is,rn1):=e;split at e
    ·rename_i y hy;cases e;obtain⟨e1,e2⟩:=e_ hy;subst e1;subst e2;exact .q σ v rn
    ·cases e
   |_=>cases e
 | .r k,x,rn,l,is,rn1,e=>by
   cases x with
   |r j=>
    have e:(match tN k j none rn with|some rn=>some (([]:List TV),([]:List Nat),rn)|none=>none)=some (l,is,rn1):=e;split at e
    ·rename_i hr;cases e;exact .r k j rn _ hr
    ·cases e
   |rn j n=>
    have e:(match tN k j (some n) rn with|some rn=>some (([]:List TV),([]:List Nat),rn)|none=>none)=some (l,is,rn1):=e;split at e
    ·rename_i hr;cases e;exact .rn k j n rn _ hr
    ·cases e
   |_=>cases e
 | .own j,x,rn,l,is,rn1,e=>by
   cases x with
   |r i=>
    obtain⟨hb,e⟩:=aQ (show(bif Nat.beq i j&&Nat.beq (nth .bu h j).st 2 then some (([]:List TV),([]:List Nat),rn) else none)=some (l,is,rn1) from e);cases e;rw[adr] at hb;have:=adu hb.1;subst this;exact .own i rn (adu hb.2)
   |_=>cases e
 | .pr a b,x,rn,l,is,rn1,e=>by
   have e:(match jQ x with
    | .pr x y=>(match proj h a x rn with|some (l,i,rn)=>(match proj h b y rn with|some (m,i',rn)=>some (l++m,i++i',rn)|none=>none)|none=>none)
    |_=>none)=some (l,is,rn1):=e
   split at e;rotate_left
   ·cases e
   rename_i y z ee;split at e;rotate_left
   ·cases e
   rename_i l1 i1 rn2 h1;split at e;rotate_left
   ·cases e
   rename_i l2 i2 rn3 h2;cases e;exact .pr a b x y z rn l1 i1 rn2 l2 i2 _ ee (r6 a y rn h1) (r6 b z rn2 h2)
theorem rT.sub {h:List TE} {md:Md} {x:TV} {rn:Rn} {l:List TV} {is:List Nat} {rn1:Rn} (p:rT h md x rn l is rn1):iI rn rn1/\rn1.length=rn.length/\(gH rn->gH rn1):=by
 induction p with
 |r k j rn rn1 hr=>obtain⟨h1,_,h2,h3⟩:=re hr;exact⟨h1,h2,h3⟩
 |rn k j n rn rn1 hr=>obtain⟨h1,_,h2,h3⟩:=re hr;exact⟨h1,h2,h3⟩
 |pr a b x y z rn l i rn1 m i' rn2 e _ _ i1 i2=>exact⟨i1.1.trans i2.1,i2.2.1.trans i1.2.1,λD=>i2.2.2 (i1.2.2 D)⟩
 |_=>exact⟨iI.refl _,rfl,id⟩
theorem rT.inj {h:List TE} {md:Md} {x:TV} {rn:Rn} {l:List TV} {is:List Nat} {rn1:Rn} (p:rT h md x rn l is rn1) (f:Nat->TV):∀(rest:List TV),inj f md (l++rest)=((inj f md l).1,rest)/\(inj f md l).2=[]:=by
 induction p with
 |pr a b x y z rn l i rn1 m i' rn2 e _ _ i1 i2=>
  intro rest;have ee:∀l,T.inj f (.pr a b) l=(.pr (T.inj f a l).1 (T.inj f b (T.inj f a l).2).1,(T.inj f b (T.inj f a l).2).2):=λl=>by cases l<;>rfl
  rw[ee,ee,adQ];rw[(i1 (m++rest)).1,(i1 m).1,(i2 rest).1];exact⟨rfl,(i2 rest).2⟩
 |_=>intro rest;exact⟨by cases rest<;>rfl,rfl⟩
def Q8 {e:Ty} (n:Option N) (r:(Ty.sl e).T):(Ty.sl e).T:=match n with|none=>r|some n=>av (e:=e) n r
def Hm (j:Nat):Md->Prop
 | .own i=>j=i
 | .pr a b=>Hm j a\/Hm j b
 |_=>False
structure Hand (B J:Bs) (n0:Nat) (rn:Rn):Prop where
 k:kA B.F B.w J.F J.w
 F:∀b,J.F b->B.F b
 w:J.w=B.w
 row:∀k j n,nth none rn k=some (j,n)->∃(e:Ty) (r:(Ty.sl e).T),B.e j=⟨1, .row e r⟩/\J.e (n0+k)=⟨1, .row e (Q8 n r)⟩/\J.b (n0+k)=B.b j
 own:∀j,j<n0->(B.e j).st=2->(J.e j).st≠7/\J.b j=B.b j/\(B.e j).b.hZ (J.e j).b
theorem rT.rep {X:Fx} {B J:Bs} {n0:Nat} {rnf:Rn} (I:bw X B) (Hd:Hand B J n0 rnf) {md:Md} {x:TV} {rn:Rn} {l:List TV} {is:List Nat} {rn1:Rn} (p:rT B.H md x rn l is rn1):
 iI rn1 rnf->(∀j,Hm j md->j<n0)->(∀j∈is,∀b s,B.b j=some (b,s)->¬J.F b)->let v:=(T.inj (λk=>TV.r (n0+k)) md l).1
 v.cells=x.cells/\(v= .bU\/(v.ag=x.ag/\k_ v=true/\k_ x=true))/\∀c o,Rp B x c o->Rp J v c o:=by
 induction p with
 |bU x rn hc=>intro _ _ _;exact⟨hc.symm, .inl rfl,λ_ _ _=>trivial⟩
 |un x rn hc ha=>intro _ _ _;exact⟨hc.symm, .inr ⟨ha.symm,rfl,by cases x<;>first|rfl|cases ha⟩,λ_ _ _=>trivial⟩
 |v t x y rn hp hs=>
  intro _ _ hi;obtain⟨c1,c2⟩:=hs.shape;refine⟨c2.symm, .inr ⟨c1.symm,rfl,hs.k_⟩,λc o hr=> ?_⟩;have h2:=hs.rep I (G:=J.F) Hd.F hp (λj hj b s hb=>hi j hj b s hb) hr;rw[<-Hd.w] at h2;exact h2
 |q t y rn=>
  intro _ _ _;refine⟨rfl, .inr ⟨rfl,rfl,rfl⟩,λc o hr=> ?_⟩;obtain⟨b,p,cs,T',fz,k1,k2,k3,k4,k5⟩:=hr;obtain⟨g1,fz',g2⟩:=Hd.k b cs T' fz k2 k3;exact⟨b,p,cs,T',fz',k1,g1,g2,k4,bI.mono Hd.k t y _ _ k5⟩
 |r k j rn rn1 hr=>
  intro hs _ _;refine⟨rfl, .inr ⟨rfl,rfl,rfl⟩,λc o ⟨_,h⟩=> ?_⟩;obtain⟨e,r,e1,e2,e3⟩:=Hd.row k j none (hs _ _ (re hr).2.1);rw[e1] at h;show(J.e (n0+k)).st≠7/\_;rw[e2,e3];exact⟨show 1≠7 by decide,h⟩
 |rn k j n rn rn1 hr=>
  intro hs _ _;refine⟨rfl, .inr ⟨rfl,rfl,rfl⟩,λc o ⟨_,h⟩=> ?_⟩;obtain⟨e,r,e1,e2,e3⟩:=Hd.row k j (some n) (hs _ _ (re hr).2.1);rw[e1] at h;show(J.e (n0+k)).st≠7/\_;rw[e2,e3];refine⟨show 1≠7 by decide,?_⟩;obtain⟨h1,h2⟩:n<=List.length r/\fH (B.b j) e.cells 0 n (c o):=h;show fH (B.b j) e.cells 0 (List.length (List.take n r)) (c o);rw[adY,Nat.min_eq_left h1];exact h2
 |own j rn hs=>
  intro _ ho _;refine⟨rfl, .inr ⟨rfl,rfl,rfl⟩,λc o ⟨_,h⟩=> ?_⟩;obtain⟨h1,h2,h3⟩:=Hd.own j (ho j rfl) hs;refine⟨h1,?_⟩;revert h h3;rw[h2];cases(B.e j).b<;>cases(J.e j).b<;>intro h g<;>first|exact h.elim|exact g.elim|skip
  obtain⟨g4,g5⟩:=g;subst g4;show fH (B.b j) _ 0 _ (c o);rw[<-g5];exact h
 |pr a b x y z rn l i rn1 m i' rn2 e p1 p2 i1 i2=>
  intro hs ho hi;obtain⟨x1,x2,x3,x4⟩:=Qi e;have ee:∀l,T.inj (λk=>TV.r (n0+k)) (.pr a b) l=(.pr (T.inj (λk=>TV.r (n0+k)) a l).1 (T.inj (λk=>TV.r (n0+k)) b (T.inj (λk=>TV.r (n0+k)) a l).2).1,(T.inj (λk=>TV.r (n0+k)) b (T.inj (λk=>TV.r (n0+k)) a l).2).2):=λl=>by cases l<;>rfl
  obtain⟨a1,_,a3⟩:=i1 (p2.sub.1.trans hs) (λj hj=>ho j (.inl hj)) (λj hj=>hi j (adM _ hj));obtain⟨b1,_,b3⟩:=i2 hs (λj hj=>ho j (.inr hj)) (λj hj=>hi j (adH _ hj));show(T.inj _ (.pr a b) (l++m)).1.cells=_/\_;rw[ee,(p1.inj _ m).1];refine⟨by show _+_=_;rw[a1,b1,x1], .inr ⟨x2.symm,rfl,x3⟩,λc o hr=> ?_⟩;obtain⟨r1,r2⟩:=x4 B c o hr;refine⟨a3 c o r1,?_⟩;rw[a1];exact b3 c _ r2
theorem rT.rv {X:Fx} {B J:Bs} {n0:Nat} {rnf:Rn} (I:bw X B) (Hd:Hand B J n0 rnf) {md:Md} {x:TV} {rn:Rn} {l:List TV} {is:List Nat} {rn1:Rn} (p:rT B.H md x rn l is rn1) (hs:iI rn1 rnf) (ho:∀j,Hm j md->j<n0) (hi:∀j∈is,∀b s,B.b j=some (b,s)->¬J.F b) {v:Value} (h:Rv B x v):Rv J (T.inj (λk=>TV.r (n0+k)) md l).1 v:=by
 obtain⟨h1,h2|⟨h2,h3,h4⟩,h5⟩:=p.rep I Hd hs ho hi
 ·rw[h2];trivial
 ·rw[gI h4] at h;rw[gI h3,h1,h2];exact⟨h.1,h5 _ _ h.2⟩
theorem ly.rows {H:List TE} {t:Ty} {x:TV} {y:t.T} (h:ly H t x y):∀j∈ids x,∃e l,(nth .bu H j).b= .row e l:=by
 induction h with
 |v t x=>intro j hj;cases hj
 |nl e=>intro j hj;cases hj
 |r e j st l hE hs=>intro i hi;rw[adF.1 hi,hE];exact⟨e,l,rfl⟩
 |rn e j st n l hE hs=>intro i hi;rw[adF.1 hi,hE];exact⟨e,l,rfl⟩
 |rs e j st o n l hE hs=>intro i hi;rw[adF.1 hi,hE];exact⟨e,l,rfl⟩
 |un=>intro j hj;cases hj
 |pr a c x y p q h1 h2 i1 i2=>intro j hj;exact(adC.1 hj).elim (i1 j) (i2 j)
 |gv k i t l c p q r s b h1 h2 h3 h4 h5 i1 i2 i3 i4 i5=>
  intro j hj;rcases adC.1 hj with hj|hj
  ·exact i1 j hj
  rcases adC.1 hj with hj|hj
  ·exact i2 j hj
  rcases adC.1 hj with hj|hj
  ·exact i3 j hj
  rcases adC.1 hj with hj|hj
  ·exact i4 j hj
  rcases adC.1 hj with hj|hj
  ·exact i5 j hj
  ·cases hj
theorem rT.rows {h:List TE} {md:Md} {x:TV} {rn:Rn} {l:List TV} {is:List Nat} {rn1:Rn} (p:rT h md x rn l is rn1):∀j∈is,∃e l,(nth .bu h j).b= .row e l:=by
 induction p with
 |v t x y rn hp hs=>exact hs.rows
 |pr a b x y z rn l i rn1 m i' rn2 e _ _ i1 i2=>intro j hj;exact(adC.1 hj).elim (i1 j) (i2 j)
 |_=>intro j hj;cases hj
inductive K0:TV->TV->Prop
 |refl (x:TV):K0 x x
 |r (j k:Nat):K0 (.r j) (.r k)
 |pr {a b c d:TV} (h1:K0 a c) (h2:K0 b d):K0 (.pr a b) (.pr c d)
theorem K0.zg {a b y:TV} (h:K0 (.pr a b) y):∃c d,y= .pr c d/\K0 a c/\K0 b d:=by
 cases h with
 |refl=>exact⟨a,b,rfl, .refl _, .refl _⟩
 |pr h1 h2=>exact⟨_,_,rfl,h1,h2⟩
theorem Aq:∀(t:Ty) {x y:TV},K0 x y->fit t x=true->fit t y=true
 | .pr a c,x,y,e,h=>by
   rcases kW h with⟨v,rfl⟩|⟨p,q,rfl,h1,h2⟩
   ·cases e;exact h
   ·obtain⟨p',q',rfl,e1,e2⟩:=e.zg;show(fit a p'&&fit c q')=true;rw[adr];exact⟨Aq a e1 h1,Aq c e2 h2⟩
 | .gv,x,y,e,h=>by
   have leaf:∀{t:Ty} {x y:TV},(t= .u 4\/t= .i 3\/t= .s\/t= .b\/t= .sl .gv)->K0 x y->fit t x=true->fit t y=true:=by
    intro t x y ht e h;cases e with
    |refl=>exact h
    |r j k=>rcases ht with rfl|rfl|rfl|rfl|rfl<;>first|(cases h;done)|rfl
    |pr h1 h2=>rcases ht with rfl|rfl|rfl|rfl|rfl<;>cases h
   by_cases hv:∃v,x= .v .gv v
   ·obtain⟨v,rfl⟩:=hv;cases e;exact h
   ·obtain⟨a,b,d,z,f,g1,f1,f2,f3,f4,f5,_,_,_⟩:=gv5 h;have hx:x= .pr a (.pr b (.pr d (.pr z (.pr f .un)))):=by
     cases x with
     |v σ v=>have e:=gU h;subst e;exact absurd ⟨v,rfl⟩ hv
     |pr p q=>exact g1
     |_=>cases h
    subst hx;obtain⟨a',y1,rfl,e1,k1⟩:=e.zg;obtain⟨b',y2,rfl,e2,k2⟩:=k1.zg;obtain⟨d',y3,rfl,e3,k3⟩:=k2.zg;obtain⟨z',y4,rfl,e4,k4⟩:=k3.zg;obtain⟨f',y5,rfl,e5,k5⟩:=k4.zg;cases k5;rw[Ar];simp only[adr];exact⟨leaf (.inl rfl) e1 f1,leaf (.inr (.inl rfl)) e2 f2,leaf (.inr (.inr (.inl rfl))) e3 f3,leaf (.inr (.inr (.inr (.inr rfl)))) e4 f4,leaf (.inr (.inr (.inr (.inl rfl)))) e5 f5⟩
 | .sl e',x,y,e,h=>by
   cases e with
   |refl=>exact h
   |r j k=>rfl
   |pr _ _=>cases h
 | .i _,x,y,e,h| .u _,x,y,e,h| .b,x,y,e,h| .s,x,y,e,h| .un,x,y,e,h| .ar _ _,x,y,e,h=>by
   cases e with
   |refl=>exact h
   |r j k=>cases h
   |pr _ _=>cases h
theorem rT.eqr {h:List TE} {md:Md} {x:TV} {rn:Rn} {l:List TV} {is:List Nat} {rn1:Rn} (p:rT h md x rn l is rn1) (n0:Nat):K0 (T.inj (λk=> .r k) md l).1 (T.inj (λk=> .r (n0+k)) md l).1:=by
 induction p with
 |r k j rn rn1 hr=>exact .r _ _
 |rn k j n rn rn1 hr=>exact .r _ _
 |pr a b x y z rn l i rn1 m i' rn2 e p1 p2 i1 i2=>
  have ee:∀f l,T.inj f (.pr a b) l=(.pr (T.inj f a l).1 (T.inj f b (T.inj f a l).2).1,(T.inj f b (T.inj f a l).2).2):=λf l=>by cases l<;>rfl
  rw[ee,ee,(p1.inj _ m).1,(p1.inj _ m).1];exact .pr i1 i2
 |_=>exact .refl _
end
noncomputable section
variable [pf]
theorem O1 (es:List Ty) (k:Nat):nth none (es.map λ_=>(none:Option (Nat×Option N))) k=none:=by
 induction es generalizing k with
 |nil=>rfl
 |cons e r ih=>cases k with
  |zero=>rfl
  |succ k=>exact ih k
theorem gH.start (es:List Ty):gH (es.map λ_=>none):=λk1 k2 j n1 n2 h _=>by
 rw[O1] at h;cases h
theorem nE:∀(ts:List Ty) (l:List TV) {x:fE.T ts},D0 ts l=some x->ga ts x=l
 |[],[],x,h=>rfl
 |[],_::_,x,h=>by cases h
 |[a],[.v σ v],x,h=>by
  have h:dy σ a v=some x:=h;obtain⟨e1,e2⟩:=e_ h;subst e1;subst e2;rfl
 |a::b::r, .v σ v::l,x,h=>by
  have h:(match dy σ a v,D0 (b::r) l with|some p,some q=>some ((p,q):fE.T (a::b::r))|_,_=>none)=some x:=h;split at h;rotate_left
  ·cases h
  rename_i p q h1 h2;cases h;obtain⟨e1,e2⟩:=e_ h1;subst e1;subst e2;show TV.v σ v::ga (b::r) q=_;rw[nE (b::r) l h2]
 |[_],[],_,h=>by cases h
 |_::_::_,[],_,h=>by cases h
 |[_], .v _ _::_::_,_,h=>by cases h
 |[_], .bU::_,_,h|[_], .nI::_,_,h|[_], .nl::_,_,h|[_], .r _::_,_,h|[_], .rn _ _::_,_,h|[_], .rs _ _ _::_,_,h|[_], .p _ _::_,_,h|[_], .q _ _::_,_,h|[_], .un::_,_,h|[_], .pr _ _::_,_,h|[_], .tp _::_,_,h|[_], .f _ _ _ _::_,_,h|[_], .cl _ _::_,_,h|[_], .nz _::_,_,h|[_], .sa _ _ _::_,_,h=>by cases h
 |_::_::_, .bU::_,_,h|_::_::_, .nI::_,_,h|_::_::_, .nl::_,_,h|_::_::_, .r _::_,_,h|_::_::_, .rn _ _::_,_,h|_::_::_, .rs _ _ _::_,_,h|_::_::_, .p _ _::_,_,h|_::_::_, .q _ _::_,_,h|_::_::_, .un::_,_,h|_::_::_, .pr _ _::_,_,h|_::_::_, .tp _::_,_,h|_::_::_, .f _ _ _ _::_,_,h|_::_::_, .cl _ _::_,_,h|_::_::_, .nz _::_,_,h|_::_::_, .sa _ _ _::_,_,h=>by cases h
inductive rX (s:TS):List (Nat×Md)->Rn->List TV->List Nat->Rn->Prop
 |nil (rn:Rn):rX s [] rn [] [] rn
 |cons (x:Nat) (md:Md) (r:List (Nat×Md)) (rn:Rn) (l:List TV) (i:List Nat) (rn1:Rn) (m:List TV) (i':List Nat) (rn2:Rn) (h1:rT s.hp md (nth .bU s.fr x) rn l i rn1) (h2:rX s r rn1 m i' rn2):rX s ((x,md)::r) rn (l++m) (i++i') rn2
theorem zw {s:TS}:∀(loc:List (Nat×Md)) (rn:Rn) {l:List TV} {is:List Nat} {rn1:Rn},D8 s loc rn=some (l,is,rn1)->rX s loc rn l is rn1
 |[],rn,l,is,rn1,h=>by
  have h:some (([]:List TV),([]:List Nat),rn)=some (l,is,rn1):=h;cases h;exact .nil rn
 |(x,md)::r,rn,l,is,rn1,h=>by
  have h:(match proj s.hp md (nth .bU s.fr x) rn with
   |some (l,i,rn)=>(match D8 s r rn with|some (l',i',rn)=>some (l++l',i++i',rn)|none=>none)
   |none=>none)=some (l,is,rn1):=h
  split at h;rotate_left
  ·cases h
  rename_i l1 i1 rn2 h1;split at h;rotate_left
  ·cases h
  rename_i l2 i2 rn3 h2;cases h;exact .cons x md r rn l1 i1 rn2 l2 i2 _ (r6 md _ rn h1) (zw r rn2 h2)
theorem rX.sub {s:TS} {loc:List (Nat×Md)} {rn:Rn} {l:List TV} {is:List Nat} {rn1:Rn} (p:rX s loc rn l is rn1):iI rn rn1/\rn1.length=rn.length/\(gH rn->gH rn1):=by
 induction p with
 |nil rn=>exact⟨iI.refl _,rfl,id⟩
 |cons x md r rn l i rn1 m i' rn2 h1 _ ih=>
  obtain⟨a1,a2,a3⟩:=h1.sub;exact⟨a1.trans ih.1,ih.2.1.trans a2,λD=>ih.2.2 (a3 D)⟩
theorem rX.rows {s:TS} {loc:List (Nat×Md)} {rn:Rn} {l:List TV} {is:List Nat} {rn1:Rn} (p:rX s loc rn l is rn1):∀j∈is,∃e l,(nth .bu s.hp j).b= .row e l:=by
 induction p with
 |nil rn=>intro j hj;cases hj
 |cons x md r rn l i rn1 m i' rn2 h1 _ ih=>intro j hj;exact(adC.1 hj).elim (h1.rows j) (ih j)
theorem o9 {f:Nat->TV} {x:Nat} {md:Md} {r:List (Nat×Md)} {l:List TV} {s:TS}:mo f ((x,md)::r) l s=mo f r (T.inj f md l).2 (Sm x (T.inj f md l).1 s):=rfl
theorem rX.inj {s:TS} {loc:List (Nat×Md)} {rn:Rn} {l:List TV} {is:List Nat} {rn1:Rn} (p:rX s loc rn l is rn1) (f:Nat->TV):∀(rest:List TV) (base:TS),(mo f loc (l++rest) base).2=rest/\(mo f loc (l++rest) base).1.hp=base.hp/\(mo f loc (l++rest) base).1.fr.length=base.fr.length:=by
 induction p with
 |nil rn=>intro rest base;exact⟨rfl,rfl,rfl⟩
 |cons x md r rn l i rn1 m i' rn2 h1 _ ih=>
  intro rest base;rw[adQ,o9,(h1.inj f (m++rest)).1];obtain⟨q1,q2,q3⟩:=ih rest (Sm x (T.inj f md l).1 base);exact⟨q1,q2,q3.trans (d5 _ _ _)⟩
theorem rX.rv {X:Fx} {B J:Bs} {n0:Nat} {rnf:Rn} (I:bw X B) (Hd:Hand B J n0 rnf) {s:TS} (hH:s.hp=B.H) {a:Nat->Value} (S:∀t,Rv B (nth .bU s.fr t) (a t)) {loc:List (Nat×Md)} {rn:Rn} {l:List TV} {is:List Nat} {rn1:Rn} (p:rX s loc rn l is rn1):
 iI rn1 rnf->(∀x∈loc,∀j,Hm j x.2->j<n0)->(∀j∈is,∀b s,B.b j=some (b,s)->¬J.F b)->∀(rest:List TV) (base:TS),(∀t,Rv J (nth .bU base.fr t) (a t))->∀t,Rv J (nth .bU (mo (λk=>TV.r (n0+k)) loc (l++rest) base).1.fr t) (a t):=by
 induction p with
 |nil rn=>intro _ _ _ rest base hb;exact hb
 |cons x md r rn l i rn1 m i' rn2 h1 h2 ih=>
  intro hs ho hi rest base hb;rw[adQ,o9,(h1.inj _ (m++rest)).1];rw[hH] at h1;have hv:=h1.rv I Hd (h2.sub.1.trans hs) (ho _ adt) (λj hj=>hi j (adM _ hj)) (S x);refine ih hs (λx hx=>ho x (ady _ hx)) (λj hj=>hi j (adH _ hj)) rest _ λt=> ?_
  show Rv J (nth .bU (setAt _ base.fr x) t) (a t);rw[cx]
  by_cases e:t=x/\x<base.fr.length
  ·rw[adp e,e.1];exact hv
  ·rw[adq e];exact hb t
theorem N5 {t:Ty} {x:TV} (h:ev t x=true):fit t x=true:=by
 unfold ev at h
 by_cases ht:t=cO
 ·rw[adm ht,cond_true] at h;split at h
  ·rw[ht];exact h
  ·cases h
 ·rw[adl ht,cond_false] at h;exact h
theorem N6 {x:TV} (h:ev cO x=true):∃y,x= .v cO y:=by
 unfold ev at h;rw[adm rfl,cond_true] at h;split at h
 ·rename_i σ y;have:=aed h;subst this;exact⟨y,rfl⟩
 ·cases h
theorem Sd {h:List TE} {md:Md} {x:cO.T} {rn:Rn} {l:List TV} {is:List Nat} {rn1:Rn} (p:rT h md (.v cO x) rn l is rn1) {f g:Nat->TV} {y:cO.T} (hy:(T.inj f md l).1= .v cO y):(T.inj g md l).1= .v cO x:=by
 generalize hz:TV.v cO x=z at p;cases p with
 |v t x' y' rn hp hs=>
  subst hz;cases hs with
  |v t x=>rfl
 |pr a b x y z rn l i rn1 m i' rn2 e p1 p2=>
  have ee:∀l,T.inj f (.pr a b) l=(.pr (T.inj f a l).1 (T.inj f b (T.inj f a l).2).1,(T.inj f b (T.inj f a l).2).2):=λl=>by cases l<;>rfl
  rw[ee] at hy;cases hy
 |_=>first|(cases hy;done)|(cases hz;done)
inductive rW (s:TS):List (Nat×Ty×Md)->Rn->List TV->List Nat->Rn->Prop
 |nil (rn:Rn):rW s [] rn [] [] rn
 |cons (j:Nat) (t:Ty) (md:Md) (c:TV) (r:List (Nat×Ty×Md)) (rn:Rn) (l:List TV) (i:List Nat) (rn1:Rn) (m:List TV) (i':List Nat) (rn2:Rn) (hE:nth .bu s.hp j=⟨1, .box t c⟩) (h1:rT s.hp md c rn l i rn1)
  (hf:ev t (T.inj (λk=> .r k) md l).1=true) (h2:rW s r rn1 m i' rn2):rW s ((j,t,md)::r) rn (l++m) (i++i') rn2
theorem sR {s:TS}:∀(bP:List (Nat×Ty×Md)) (rn:Rn) {l:List TV} {is:List Nat} {rn1:Rn},zu s bP rn=some (l,is,rn1)->rW s bP rn l is rn1
 |[],rn,l,is,rn1,h=>by
  have h:some (([]:List TV),([]:List Nat),rn)=some (l,is,rn1):=h;cases h;exact .nil rn
 |(j,t,md)::r,rn,l,is,rn1,h=>by
  have h:(match s.bP j with
   |⟨1, .box t' c⟩=>(bif decide (t'=t) then(match proj s.hp md c rn with
    |some (l,i,rn)=>(bif ev t (T.inj (λk=> .r k) md l).1 then(match zu s r rn with|some (l',i',rn)=>some (l++l',i++i',rn)|none=>none) else none)
    |none=>none) else none)
   |_=>none)=some (l,is,rn1):=h
  split at h;rotate_left
  ·cases h
  rename_i t' c hE;obtain⟨hd,h⟩:=aQ h;have hd:=aed hd;subst hd;split at h;rotate_left
  ·cases h
  rename_i l1 i1 rn2 h1;obtain⟨hf,h⟩:=aQ h;split at h;rotate_left
  ·cases h
  rename_i l2 i2 rn3 h2;cases h;exact .cons j t' md c r rn l1 i1 rn2 l2 i2 _ hE (r6 md c rn h1) hf (sR r rn2 h2)
theorem rW.sub {s:TS} {bP:List (Nat×Ty×Md)} {rn:Rn} {l:List TV} {is:List Nat} {rn1:Rn} (p:rW s bP rn l is rn1):iI rn rn1/\rn1.length=rn.length/\(gH rn->gH rn1):=by
 induction p with
 |nil rn=>exact⟨iI.refl _,rfl,id⟩
 |cons j t md c r rn l i rn1 m i' rn2 hE h1 hf _ ih=>
  obtain⟨a1,a2,a3⟩:=h1.sub;exact⟨a1.trans ih.1,ih.2.1.trans a2,λD=>ih.2.2 (a3 D)⟩
theorem rW.rows {s:TS} {bP:List (Nat×Ty×Md)} {rn:Rn} {l:List TV} {is:List Nat} {rn1:Rn} (p:rW s bP rn l is rn1):∀j∈is,∃e l,(nth .bu s.hp j).b= .row e l:=by
 induction p with
 |nil rn=>intro j hj;cases hj
 |cons j t md c r rn l i rn1 m i' rn2 hE h1 hf _ ih=>intro j hj;exact(adC.1 hj).elim (h1.rows j) (ih j)
def BK (s:TS) (bP:List (Nat×Ty×Md)) (f:Nat->TV) (is:List Nat) (rnf:Rn) (j:Nat) (e:TE):Prop:=∃t c md rn l i rn1,nth .bu s.hp j=⟨1, .box t c⟩/\(j,t,md)∈bP/\rT s.hp md c rn l i rn1/\ev t (T.inj (λk=> .r k) md l).1=true/\iI rn1 rnf/\(∀x∈i,x∈is)/\e=⟨1, .box t (T.inj f md l).1⟩
theorem o8 {f:Nat->TV} {j:Nat} {t:Ty} {md:Md} {r:List (Nat×Ty×Md)} {l:List TV} {s:TS}:iQ f ((j,t,md)::r) l s=iQ f r (T.inj f md l).2 (s.put j ⟨1, .box t (T.inj f md l).1⟩):=rfl
theorem rW.inj {s:TS} {bP:List (Nat×Ty×Md)} {rn:Rn} {l:List TV} {is:List Nat} {rn1:Rn} (p:rW s bP rn l is rn1) (f:Nat->TV):∀(rest:List TV) (base:TS),(iQ f bP (l++rest) base).2=rest/\(iQ f bP (l++rest) base).1.fr=base.fr/\(iQ f bP (l++rest) base).1.hp.length=base.hp.length/\
 ∀j,j<base.hp.length->(nth .bu (iQ f bP (l++rest) base).1.hp j=nth .bu base.hp j/\j∉bP.map (·.1))\/BK s bP f is rn1 j (nth .bu (iQ f bP (l++rest) base).1.hp j):=by
 induction p with
 |nil rn=>intro rest base;exact⟨rfl,rfl,rfl,λj _=> .inl ⟨rfl,λh=>by cases h⟩⟩
 |cons j t md c r rn l i rn1 m i' rn2 hE h1 hf h2 ih=>
  intro rest base;rw[adQ,o8,(h1.inj f (m++rest)).1];have hlen:(base.put j ⟨1, .box t (T.inj f md l).1⟩).hp.length=base.hp.length:=d5 _ _ _;obtain⟨q1,q2,q3,q4⟩:=ih rest (base.put j ⟨1, .box t (T.inj f md l).1⟩);refine⟨q1,q2,q3.trans hlen,λx hx=> ?_⟩;rcases q4 x (by rw[hlen];exact hx) with⟨g1,g2⟩|⟨t',c',md',rn',l',i2,rn2',g1,g0,g2,g3,g4,g5,g6⟩
  ·have e:nth .bu (base.put j ⟨1, .box t (T.inj f md l).1⟩).hp x=if x=j/\j<base.hp.length then⟨1, .box t (T.inj f md l).1⟩ else nth .bu base.hp x:=cx _ _ _ _ _
   by_cases ex:x=j
   ·subst ex;rw[adp ⟨rfl,hx⟩] at e;exact .inr ⟨t,c,md,rn,l,i,rn1,hE,adt,h1,hf,h2.sub.1,λy hy=>adM _ hy,g1.trans e⟩
   ·rw[adq (λh=>ex h.1)] at e;refine .inl ⟨g1.trans e,λh=> ?_⟩;rcases adK.1 h with h|h
    ·exact ex h
    ·exact g2 h
  ·exact .inr ⟨t',c',md',rn',l',i2,rn2',g1,ady _ g0,g2,g3,g4,λy hy=>adH _ (g5 y hy),g6⟩
def RowsIn (h:List TE) (es:List Ty) (rn:Rn) (q:List TV) (s:TS):Prop:=(jt es q s).fr=s.fr/\(jt es q s).hp.length=s.hp.length+es.length/\(∀j,j<s.hp.length->nth .bu (jt es q s).hp j=nth .bu s.hp j)/\
    ∀k,k<es.length->∃(e:Ty) (x:(Ty.sl e).T),nth .bu (jt es q s).hp (s.hp.length+k)=⟨1, .row e x⟩/\((nth none rn k=none/\x=jg e/\1<=e.cells)\/∃j n r,nth none rn k=some (j,n)/\nth .bu h j=⟨1, .row e r⟩/\x=Q8 n r)
theorem wV {h:List TE}:∀(es:List Ty) (rn:Rn) {q:List TV},wU h es rn=some q->q.length=es.length/\∀(rest:List TV) (s:TS),RowsIn h es rn (q++rest) s
 |[],rn,q,hq=>by
  have hq:some ([]:List TV)=some q:=hq;cases hq;refine⟨rfl,λrest s=> ?_⟩;have e1:jt [] ([]++rest) s=s:=by cases rest<;>rfl
  unfold RowsIn;rw[e1];exact⟨rfl,rfl,λ_ _=>rfl,λk hk=>absurd hk (adS _)⟩
 |e::r,rn,q,hq=>by
  have hq:(match wU h r (rn.drop 1) with
   |some l=>(match(generalizing:=false) rn with
    |some (j,n)::_=>(match(generalizing:=false) nth .bu h j with
     |⟨1, .row e' x⟩=>(match dy (.sl e') (.sl e) (match(generalizing:=false) n with|some n=>av (e:=e') n x|none=>x) with|some x=>some (TV.v (.sl e) x::l)|none=>none)
     |_=>none)
    |_=>(bif Nat.ble 1 e.cells then some (TV.v (.sl e) (jg e)::l) else none))
   |none=>none)=some q:=hq
  split at hq;rotate_left
  ·cases hq
  rename_i l hl;obtain⟨g0,g⟩:=wV r (rn.drop 1) hl;have rec':∀(x:(Ty.sl e).T),q=TV.v (.sl e) x::l->((nth none rn 0=none/\x=jg e/\1<=e.cells)\/∃j n r,nth none rn 0=some (j,n)/\nth .bu h j=⟨1, .row e r⟩/\x=Q8 n r)->q.length=(e::r).length/\∀(rest:List TV) (s:TS),RowsIn h (e::r) rn (q++rest) s:=by
   intro x eq h0;refine⟨by rw[eq,adB,adB,g0],λrest s=> ?_⟩;have ei:jt (e::r) (q++rest) s=jt r (l++rest) (s.new (.row e x)):=by
    rw[eq];show(match dy (.sl e) (.sl e) x with|some x=>jt r (l++rest) (s.new (.row e x))|none=>s)=_;rw[vx]
   have hn:(s.new (.row e x)).hp=s.hp++[⟨1, .row e x⟩]:=rfl;obtain⟨g2,g3,g4,g5⟩:=g rest (s.new (.row e x));have Nq:(s.new (.row e x)).hp.length=s.hp.length+1:=by rw[hn,ado];rfl
   unfold RowsIn;rw[ei];refine⟨g2,by rw[g3,Nq,adB];omega,λj hj=> ?_,λk hk=> ?_⟩
   ·rw[g4 j (by rw[Nq];omega),hn,dF,adp hj]
   ·cases k with
    |zero=>
     refine⟨e,x,?_,h0⟩;rw[ae9,g4 _ (by rw[Nq];omega),hn,dF,adq (Nat.lt_irrefl _),aep];rfl
    |succ k=>
     obtain⟨e',x',k1,k2⟩:=g5 k (by rw[adB] at hk;omega);have en:nth none (rn.drop 1) k=nth none rn (k+1):=by
      cases rn with
      |nil=>cases k<;>rfl
      |cons a t=>rfl
     rw[en] at k2;rw[Nq,show s.hp.length+1+k=s.hp.length+(k+1) by omega] at k1;exact⟨e',x',k1,k2⟩
  have nil:nth none rn 0=none->(bif Nat.ble 1 e.cells then some (TV.v (.sl e) (jg e)::l) else none)=some q->q.length=(e::r).length/\∀(rest:List TV) (s:TS),RowsIn h (e::r) rn (q++rest) s:=λh0 hq=>by
   obtain⟨hb,hq⟩:=aQ hq;exact rec' (jg e) (Option.some.inj hq).symm (.inl ⟨h0,rfl,adv hb⟩)
  cases rn with
  |nil=>exact nil rfl hq
  |cons a t=>
   cases a with
   |none=>exact nil rfl hq
   |some jn=>
    obtain⟨j,n⟩:=jn;have hq:(match(generalizing:=false) nth .bu h j with
     |⟨1, .row e' x⟩=>(match dy (.sl e') (.sl e) (match(generalizing:=false) n with|some n=>av (e:=e') n x|none=>x) with|some x=>some (TV.v (.sl e) x::l)|none=>none)
     |_=>none)=some q:=hq
    split at hq;rotate_left
    ·cases hq
    rename_i e' x hx;split at hq;rotate_left
    ·cases hq
    rename_i y hy;obtain⟨e1,e2⟩:=iN hy;subst e1;refine rec' y (Option.some.inj hq).symm (.inr ⟨j,n,x,rfl,hx,?_⟩);rw[<-e2];cases n<;>rfl
structure a7l (sh:Sh) (s:TS) (x:fE.T sh.iY) (l m q:List TV) (i i':List Nat) (rn1 rn:Rn) (h:List TE):Prop where
 L:rX s sh.loc (sh.rows.map λ_=>none) l i rn1
 B:rW s sh.bP rn1 m i' rn
 R:wU s.hp sh.rows rn=some q
 fz:freeze s.hp (i++i')=some h
 st:∀k j n,nth none rn k=some (j,n)->(nth .bu h j).st=1
 x:ga sh.iY x=l++(m++q)
theorem FP {rn:Rn} {p:Option (Nat×Option N)->Bool} (h:rn.all p=true) {k:Nat} {z:Nat×Option N} (e:nth none rn k=some z):p (some z)=true:=by
 refine adE.1 h _ ?_;clear h
 induction rn generalizing k with
 |nil=>cases e
 |cons a r ih=>
  cases k with
  |zero=>have e:a=some z:=e;rw[e];exact adt
  |succ k=>exact ady _ (ih e)
theorem D9 {sh:Sh} {s:TS} {x:fE.T sh.iY} (h:eD sh s=some x):∃l m q i i' rn1 rn h,a7l sh s x l m q i i' rn1 rn h:=by
 unfold eD at h;split at h;rotate_left
 ·cases h
 rename_i l i rn1 h1;split at h;rotate_left
 ·cases h
 rename_i m i' rn h2;split at h;rotate_left
 ·cases h
 rename_i q hh h3 h4;obtain⟨h5,h6⟩:=aQ h;exact⟨l,m,q,i,i',rn1,rn,hh,zw _ _ h1,sR _ _ h2,h3,h4,λk j n e=>adu (FP h5 e),nE _ _ h6⟩
end
noncomputable section
variable [pf]
def jj (B0:Bs) (U ks:List Nat) (H:List TE):Prop:=H.length=B0.H.length/\∀j,j<B0.H.length->j∉ks->(nth .bu H j=⟨9,(B0.e j).b⟩/\(B0.e j).st=1)\/((j∉U\/(B0.e j).st≠1)/\nth .bu H j=B0.e j)
def B9 (B':Bs) (rn:Rn) (k:Nat):Option (Nat×Nat):=match nth none rn k with|some (j,_)=>B'.b j|none=>none
def Bs.join (B0 B':Bs) (rn:Rn) (nr:Nat) (H:List TE):Bs:=⟨B'.F0,H,B0.bs++(List.range nr).map (B9 B' rn),B'.w⟩
theorem Hq {α:Type} (f:Nat->Option α):∀(n k i:Nat),nth none ((List.range' k n).map f) i=if i<n then f (k+i) else none
 |0,k,i=>by rw[adq (adS _)];rfl
 |n+1,k,0=>by rw[adp (Nat.succ_pos _)];rfl
 |n+1,k,i+1=>by
  show nth none ((List.range' (k+1) n).map f) i=_;rw[Hq f n (k+1) i]
  by_cases h:i<n
  ·rw[adp h,adp (Nat.succ_lt_succ h),show k+1+i=k+(i+1) by omega]
  ·rw[adq h,adq (λh'=>h (Nat.lt_of_succ_lt_succ h'))]
structure Kk (B0 B':Bs) (s':TS) (U:List Nat) (bP:List (Nat×Ty×Md)) (is:List Nat) (rn:Rn) (nr:Nat) (H:List TE):Prop where
 len:H.length=B0.H.length+nr
 rl:rn.length=nr
 lo:∀j,j<B0.H.length->BK s' bP (λk=> .r (B0.H.length+k)) is rn j (nth .bu H j)\/(nth .bu H j=⟨9,(B0.e j).b⟩/\(B0.e j).st=1)\/((j∉U\/(B0.e j).st≠1)/\nth .bu H j=B0.e j)
 ks:∀j,j<B0.H.length->j∈bP.map (·.1)->BK s' bP (λk=> .r (B0.H.length+k)) is rn j (nth .bu H j)
 hi:∀k,k<nr->∃(e:Ty) (x:(Ty.sl e).T),nth .bu H (B0.H.length+k)=⟨1, .row e x⟩/\((nth none rn k=none/\x=jg e/\1<=e.cells)\/∃j n r,nth none rn k=some (j,n)/\B'.e j=⟨1, .row e r⟩/\x=Q8 n r)
theorem rW.Tz {B0 B':Bs} {s':TS} (hs:s'.hp=B'.H) {U:List Nat} {bP:List (Nat×Ty×Md)} {rn1 rn:Rn} {m q:List TV} {is:List Nat} {rows:List Ty} (pB:rW s' bP rn1 m is rn) (pR:wU s'.hp rows rn=some q) (hl:rn.length=rows.length) {base:TS} (hb:jj B0 U (bP.map (·.1)) base.hp) (rest:List TV):
 Kk B0 B' s' U bP is rn rows.length (jt rows (q++rest) (iQ (λk=> .r (B0.H.length+k)) bP (m++(q++rest)) base).1).hp/\(jt rows (q++rest) (iQ (λk=> .r (B0.H.length+k)) bP (m++(q++rest)) base).1).fr=base.fr/\(iQ (λk=> .r (B0.H.length+k)) bP (m++(q++rest)) base).2=q++rest:=by
 obtain⟨h1,h2,h3,h4⟩:=pB.inj (λk=> .r (B0.H.length+k)) (q++rest) base;obtain⟨_,g⟩:=wV rows rn pR;obtain⟨g1,g2,g3,g4⟩:=g rest (iQ (λk=> .r (B0.H.length+k)) bP (m++(q++rest)) base).1;obtain⟨b1,b2⟩:=hb;refine⟨⟨by rw[g2,h3,b1],hl,λj hj=> ?_,λj hj hm=> ?_,λk hk=> ?_⟩,g1.trans h2,h1⟩
 ·have e:=g3 j (by rw[h3,b1];exact hj);rcases h4 j (by rw[b1];exact hj) with⟨k1,k2⟩|k
  ·refine .inr ?_;rw[e,k1];exact b2 j hj k2
  ·rw[e];exact .inl k
 ·have e:=g3 j (by rw[h3,b1];exact hj);rcases h4 j (by rw[b1];exact hj) with⟨_,k2⟩|k
  ·exact absurd hm k2
  ·rw[e];exact k
 ·obtain⟨e,x,k1,k2⟩:=g4 k hk;rw[h3,b1] at k1;refine⟨e,x,k1,?_⟩;rcases k2 with k2|⟨j,n,r,k2,k3,k4⟩
  ·exact .inl k2
  ·exact .inr ⟨j,n,r,k2,by show nth .bu B'.H j=_;rw[<-hs];exact k3,k4⟩
section
variable {X:Fx} {B0 B':Bs} {s':TS} {U:List Nat} {bP:List (Nat×Ty×Md)} {is:List Nat} {rn:Rn} {nr:Nat} {H:List TE}
theorem iu (I0:bw X B0) {j:Nat} (h:j<B0.H.length):(B0.join B' rn nr H).b j=B0.b j:=by
 show nth none (B0.bs++_) j=_;rw[dF,I0.len,adp h];rfl
theorem Ay (I0:bw X B0) {k:Nat} (h:k<nr):(B0.join B' rn nr H).b (B0.H.length+k)=B9 B' rn k:=by
 show nth none (B0.bs++_) _=_;rw[dF,I0.len,adi,ae1,List.range_eq_range',Hq,adp h,adI]
variable (I0:bw X B0) (I':bw (X.tC B0 U) B') (L':bo (B0.lock U) B') (hs:s'.hp=B'.H) (J:Kk B0 B' s' U bP is rn nr H)
include I0 I' L' hs J
theorem uC {j:Nat} (hj:j<B0.H.length) {t:Ty} {c:TV} (h:B'.e j=⟨1, .box t c⟩):(B0.e j).st=1/\j∈U/\B'.b j=B0.b j/\∃c0,(B0.e j).b= .box t c0:=by
 have _:=J;have _:=hs;have key:(B0.e j).st=1/\j∈U:=by
  by_cases h1:j∉U\/(B0.e j).st≠1
  ·obtain⟨_,k2,_⟩:=uO (X:=X) rfl I' hj h1;rw[h] at k2;rcases dD U (B0.e j) j with⟨e1,e2⟩|⟨_,e2,_⟩
   ·rw[e1] at k2;have kY:(B0.e j).st=1:=by rw[<-k2]
    have:=dz.1 (e2 kY);rcases h1 with h1|h1
    ·exact absurd this h1
    ·exact absurd kY h1
   ·rw[e2] at k2;cases k2
  ·refine⟨?_,?_⟩
   ·by_cases e:(B0.e j).st=1
    ·exact e
    ·exact absurd (.inr e) h1
   ·by_cases e:j∈U
    ·exact e
    ·exact absurd (.inl e) h1
 obtain⟨h1,h2⟩:=key;have e:(B0.lock U).e j=B0.e j:=by
  rw[iR];rcases dD U (B0.e j) j with⟨e1,_⟩|⟨_,_,e3⟩
  ·exact e1
  ·rw[dz.2 h2] at e3;cases e3
 obtain⟨_,k2,k3⟩:=L'.e j (by rw[e,h1];decide);refine⟨h1,h2,k2,?_⟩;rw[e,h] at k3;revert k3;cases(B0.e j).b with
 |box t' c0=>intro k3;have k3:t'=t:=k3;exact⟨c0,by rw[k3]⟩
 |_=>exactλk=>k.elim
theorem jG {i:Nat} (hi:i<B0.H.length) (h:((B0.join B' rn nr H).e i).st<=2):(B0.e i).st<=2/\(B'.e i).st<=2/\B'.b i=B0.b i/\((B0.join B' rn nr H).own i->B0.own i/\B'.own i)/\
 ((∃t c,B'.e i=⟨1, .box t c⟩/\(B0.e i).st=1/\i∈U/\BK s' bP (λk=> .r (B0.H.length+k)) is rn i ((B0.join B' rn nr H).e i))\/((i∉U\/(B0.e i).st≠1)/\(B0.join B' rn nr H).e i=B0.e i/\B'.e i=jW U (B0.e i) i)):=by
 rcases J.lo i hi with hb|⟨g,_⟩|⟨g1,g2⟩
 ·have hb0:=hb;obtain⟨t,c,md,rn',l,i',rn1,g1,_,_,_,_,_,g6⟩:=hb;have g1:B'.e i=⟨1, .box t c⟩:=by show nth .bu B'.H i=_;rw[<-hs];exact g1
  obtain⟨k1,k2,k3,_⟩:=uC I0 I' L' hs J hi g1;exact⟨ade,by rw[g1];exact show 1<=2 by decide,k3,λ_=>⟨.inl k1, .inl (by rw[g1])⟩, .inl ⟨t,c,g1,k1,k2,hb0⟩⟩
 ·have g:(B0.join B' rn nr H).e i=_:=g;rw[g] at h;exact absurd h (show¬9<=2 by decide)
 ·have g2:(B0.join B' rn nr H).e i=B0.e i:=g2;obtain⟨_,k2,k3⟩:=uO (X:=X) rfl I' hi g1;rw[g2] at h;have e:(B0.lock U).e i=B'.e i:=by rw[iR,k2]
  refine⟨h,by rw[<-e];exact uQ.2 h,k3,λho=> ?_, .inr ⟨g1,g2,k2⟩⟩;have ho:B0.own i:=by unfold Bs.own at ho⊢;rw[g2] at ho;exact ho
  refine⟨ho,?_⟩;have:=(qS (U:=U)).2 ho;unfold Bs.own at this⊢;rw[e] at this;exact this
theorem jF {k:Nat} (hk:k<nr) {b s:Nat} (h:(B0.join B' rn nr H).b (B0.H.length+k)=some (b,s)):∃j n e r,nth none rn k=some (j,n)/\B'.b j=some (b,s)/\B'.e j=⟨1, .row e r⟩:=by
 have _:=I';have _:=L';have _:=hs;rw[Ay I0 hk] at h;obtain⟨e,x,_,h1|⟨j,n,r,h1,h2,_⟩⟩:=J.hi k hk
 ·unfold B9 at h;rw[h1.1] at h;cases h
 ·unfold B9 at h;rw[h1] at h;exact⟨j,n,e,r,h1,h,h2⟩
theorem kF {i:Nat} (h:((B0.join B' rn nr H).e i).st≠7):i<B0.H.length\/∃k,k<nr/\i=B0.H.length+k:=by
 have _:=I0;have _:=I';have _:=L';have _:=hs;have:i<H.length:=jB (B:=B0.join B' rn nr H) h;rw[J.len] at this
 by_cases h':i<B0.H.length
 ·exact .inl h'
 ·exact .inr ⟨i-B0.H.length,ade,ade⟩
theorem ND {b:Nat} (h:(B0.join B' rn nr H).F b):B'.F b:=by
 rcases h with h|⟨i,s,h1,h2⟩
 ·exact .inl h
 ·have h3:=jx h1;rcases kF I0 I' L' hs J (xM h3) with hi|⟨k,hk,rfl⟩
  ·obtain⟨_,_,a3,a4,_⟩:=jG I0 I' L' hs J hi h3;rw[iu I0 hi] at h2;exact .inr ⟨i,s,(a4 h1).2,a3.trans h2⟩
  ·obtain⟨j,n,e,r,_,g2,g3⟩:=jF I0 I' L' hs J hk h2;exact .inr ⟨j,s, .inl (by rw[g3]),g2⟩
theorem sG:Hand B' (B0.join B' rn nr H) B0.H.length rn:=by
 refine⟨λb cs T fz g1 g2=>⟨λh=>g1 (ND I0 I' L' hs J h),fz,g2⟩,λb h=>ND I0 I' L' hs J h,rfl,λk j n hn=> ?_,λj hj h2=> ?_⟩
 ·have hk:k<nr:=by
   apply aeg;intro h';rw[dw _ _ _ (by rw[J.rl];exact h')] at hn;cases hn
  obtain⟨e,x,g1,g|⟨j',n',r,g2,g3,g4⟩⟩:=J.hi k hk
  ·rw[g.1] at hn;cases hn
  ·rw[g2] at hn;cases hn;refine⟨e,r,g3,by show nth .bu H _=_;rw[g1,g4],?_⟩;rw[Ay I0 hk];unfold B9;rw[g2]
 ·rcases J.lo j hj with hb|⟨g,g'⟩|⟨g1,g2⟩
  ·obtain⟨t,c,md,rn',l,i',rn1,g1,_⟩:=hb;have g1:B'.e j=⟨1, .box t c⟩:=by show nth .bu B'.H j=_;rw[<-hs];exact g1
   rw[g1] at h2;cases h2
  ·have g:(B0.join B' rn nr H).e j=_:=g;rw[g,iu I0 hj];obtain⟨_,k2,k3⟩:=L'.e j (λe=>by rw[EY] at e;omega);rw[iR,uP] at k3;refine⟨show 9≠7 by decide,k2.symm,?_⟩;have:(B'.e j).b.hZ (B0.e j).b:=by
    revert k3;cases(B0.e j).b<;>cases(B'.e j).b<;>intro k3<;>first|exact k3.elim|skip
    ·exact⟨k3.1.symm,k3.2.symm⟩
    ·exact Eq.symm k3
    ·trivial
   exact this
  ·have g2:(B0.join B' rn nr H).e j=B0.e j:=g2;obtain⟨_,k2,k3⟩:=uO (X:=X) rfl I' hj g1;rw[g2,iu I0 hj,k2,uP];refine⟨λe=> ?_,k3.symm,cu _⟩;rw[k2] at h2;rcases dD U (B0.e j) j with⟨e1,_⟩|⟨e1,_,_⟩
   ·rw[e1] at h2;omega
   ·omega
theorem CA {h:List TE} {il:List Nat} (fz:freeze s'.hp il=some h) (kY:∀k j n,nth none rn k=some (j,n)->(nth .bu h j).st=1) (hr:∀j∈il,∃e l,(nth .bu s'.hp j).b= .row e l):∀j∈il,∀b s,B'.b j=some (b,s)->¬(B0.join B' rn nr H).F b:=by
 intro j hj b s hb hF;obtain⟨F1,f0⟩:=gK fz;have f0:=f0 j hj;have aa3:(B'.e j).st=0\/(B'.e j).st=1:=by
  have:=F1.st j;rw[hs] at this;show(nth .bu B'.H j).st=0\/(nth .bu B'.H j).st=1;rcases this with k|⟨k,_⟩
  ·exact .inl (by rw[<-k];exact f0)
  ·exact .inr k
 have h2:(B'.e j).st<=2:=ade;rcases hF with hF|⟨i,s',h1,h3⟩
 ·have:B'.F0 b:=hF;rw[I'.F0] at this;exact I'.fr j b s h2 hb this
 ·have h4:=jx h1;rcases kF I0 I' L' hs J (xM h4) with hi|⟨k,hk,rfl⟩
  ·obtain⟨_,_,a3,a4,a5⟩:=jG I0 I' L' hs J hi h4;rw[iu I0 hi] at h3;have e:=I'.inj i j b s' s (a4 h1).2 h2 (a3.trans h3) hb;subst e;rcases a5 with⟨t,c,g1,_⟩|⟨g1,_,g3⟩
   ·obtain⟨e,l,g⟩:=hr i hj;rw[hs] at g;have g:(B'.e i).b= .row e l:=g;rw[g1] at g;cases g
   ·have ho:=(a4 h1).2;unfold Bs.own at ho;have:(B'.e i).st=1:=ade;rw[g3] at this;rcases dD U (B0.e i) i with⟨e1,e2⟩|⟨_,e2,_⟩
    ·rw[e1] at this;have:=dz.1 (e2 this);rcases g1 with g1|g1
     ·exact g1 this
     ·exact g1 (by assumption)
    ·rw[e2] at this;exact absurd this (show¬2=1 by decide)
  ·obtain⟨j2,n,e,r,g1,g2,g3⟩:=jF I0 I' L' hs J hk h3;have e:=I'.inj j2 j b s' s (.inl (by rw[g3])) h2 g2 hb;subst e;have:=kY k j2 n g1;omega
theorem RT {b:Nat} (hb:b<B0.w.heap.size) (h:¬CD B0 U b):∃j s,j∈U/\(B0.e j).st=1/\B0.b j=some (b,s):=by
 have _:=I0;have _:=I';have _:=L';have _:=hs;have _:=J;refine Classical.byContradiction λh'=>h ⟨hb,λj s h1 h2 h3=>h' ⟨j,s,h1,h2,h3⟩⟩
theorem pG:bo B0 (B0.join B' rn nr H):=by
 refine⟨λb cs T fz g1 g2=> ?_,λj hj=> ?_⟩
 ·have hk:CD B0 U b:=⟨(ae3.1 g2).1,λj s _ h2 h3=>g1 (.inr ⟨j,s, .inl h2,h3⟩)⟩;refine⟨λhF=> ?_,fz,((I'.old b hk).2).trans g2⟩;rcases hF with hF|⟨i,s,h1,h3⟩
  ·have hF:B'.F0 b:=hF;rw[I'.F0] at hF;have e:=I0.F0;exact g1 (.inl (by rw[e];exact hF))
  ·have h4:=jx h1;rcases kF I0 I' L' hs J (xM h4) with hi|⟨k,hk',rfl⟩
   ·obtain⟨_,_,a3,a4,_⟩:=jG I0 I' L' hs J hi h4;rw[iu I0 hi] at h3;exact g1 (.inr ⟨i,s,(a4 h1).1,h3⟩)
   ·obtain⟨j,n,e,r,_,q2,q3⟩:=jF I0 I' L' hs J hk' h3;exact I'.lo j b s (by rw[q3]) q2 hk
 ·have iJ:=jB hj;rw[iu I0 iJ];rcases J.lo j iJ with hb|⟨g,_⟩|⟨g1,g2⟩
  ·obtain⟨t,c,md,rn',l,i',rn1,g1,_,_,_,_,_,g6⟩:=hb;have g1:B'.e j=⟨1, .box t c⟩:=by show nth .bu B'.H j=_;rw[<-hs];exact g1
   obtain⟨_,_,_,c0,k4⟩:=uC I0 I' L' hs J iJ g1;have g6:(B0.join B' rn nr H).e j=_:=g6;rw[g6,k4];exact⟨show 1≠7 by decide,rfl,rfl⟩
  ·have g:(B0.join B' rn nr H).e j=_:=g;rw[g];exact⟨show 9≠7 by decide,rfl,cu _⟩
  ·have g2:(B0.join B' rn nr H).e j=B0.e j:=g2;rw[g2];exact⟨hj,rfl,cu _⟩
theorem CB (D:gH rn) (Av:∀j∈is,∀b s,B'.b j=some (b,s)->¬(B0.join B' rn nr H).F b) (X3:∀x∈bP,∀j,Hm j x.2.2->j<B0.H.length):bw X (B0.join B' rn nr H):=by
 have L:=pG I0 I' L' hs J;have Hd:=sG I0 I' L' hs J;have hz:B0.w.heap.size<=B'.w.heap.size:=I'.nx;have old:∀{j b s},j<B0.H.length->(j∉U\/(B0.e j).st≠1)->(B0.e j).st<=2->B0.b j=some (b,s)->CD B0 U b:=λ{j b s} hj h1 h2 h3=>by
  have:=I0.bP j;rw[h3] at this;refine⟨this.size h2,λj' s' k1 k2 k3=> ?_⟩;have:=I0.inj j' j b s' s (.inl k2) h2 k3 h3;subst this;rcases h1 with h1|h1
  ·exact h1 k1
  ·exact h1 k2
 have clash:∀{i k b s s'},i<B0.H.length->((B0.join B' rn nr H).e i).st<=2->k<nr->(B0.join B' rn nr H).b i=some (b,s)->(B0.join B' rn nr H).b (B0.H.length+k)=some (b,s')->False:=λ{i k b s s'} hi h1 hk h2 h3=>by
  obtain⟨j,n,e,r,g1,g2,g3⟩:=jF I0 I' L' hs J hk h3;obtain⟨a1,a2,a3,_,a5⟩:=jG I0 I' L' hs J hi h1;rw[iu I0 hi] at h2;have ho:B'.own j:= .inl (by rw[g3]);have e1:=I'.inj j i b s' s ho a2 g2 (a3.trans h2);subst e1;rcases a5 with⟨t,c,q1,_⟩|⟨q1,_,q3⟩
  ·rw[q1] at g3;cases g3
  ·rw[g3] at q3;rcases dD U (B0.e j) j with⟨e1,e2⟩|⟨_,e2,_⟩
   ·rw[e1] at q3;have kY:(B0.e j).st=1:=by rw[<-q3]
    have:=dz.1 (e2 kY);rcases q1 with q1|q1
    ·exact q1 this
    ·exact q1 kY
   ·rw[e2] at q3;cases q3
 refine⟨?_,λi=> ?_,λi j b s s' g1 g3 g4 g5=> ?_,λj b s g1 g2=> ?_,λj b s g1 g2=> ?_,λb h=> ?_,aem I0.nx hz,I0.xo,I0.io.trans I'.io,I'.F0,λx hx=>(I0.DO x hx).mono L,λx hx=> ?_⟩
 ·show(B0.bs++_).length=H.length;rw[ado,ae0,List.length_range,J.len,I0.len]
 ·by_cases kY:((B0.join B' rn nr H).e i).st<=2
  ·rcases kF I0 I' L' hs J (xM kY) with hi|⟨k,hk,rfl⟩
   ·obtain⟨a1,a2,a3,_,a5⟩:=jG I0 I' L' hs J hi kY;rw[iu I0 hi];rcases a5 with⟨_,_,_,_,_,hb⟩|⟨q1,q2,_⟩
    ·obtain⟨t,c,md,rn',l,i',rn1,g1,g0,g2,g3,g4,g5,g6⟩:=hb;have g1:B'.e i=⟨1, .box t c⟩:=by show nth .bu B'.H i=_;rw[<-hs];exact g1
     rw[g6];rw[hs] at g2;have hb':=I'.bP i;rw[g1,a3] at hb';obtain⟨_,hbx⟩:=hb' (show 1<=2 by decide);intro _;refine⟨Aq t (g2.eqr B0.H.length) (N5 g3),?_⟩;rcases hbx with⟨Je,b,cs,T,fz,m1,m2,m3,m4,m5,m6⟩|⟨Je,l0,hc,hl0⟩
     ·exact .inl ⟨Je,b,cs,T,fz,m1,m2,m3,m4,m5,(g2.rep I' Hd g4 (X3 _ g0) (λj hj=>Av j (g5 j hj))).2.2 _ _ m6⟩
     ·subst Je;subst hc;obtain⟨y,hy⟩:=N6 g3;exact .inr ⟨rfl,l0,Sd g2 hy,hl0⟩
    ·rw[q2];exact lg.mono L (λb s hb=>(I'.old b (old hi q1 a1 hb)).2) (I0.bP i)
   ·rw[Ay I0 hk];obtain⟨e,x,g1,h|⟨j,n,r,q1,q2,q3⟩⟩:=J.hi k hk
    ·obtain⟨h1,h2,h3⟩:=h;have g1:(B0.join B' rn nr H).e (B0.H.length+k)=_:=g1;rw[g1,show B9 B' rn k=none by unfold B9;rw[h1],h2];intro _;exact⟨by show 0<dU;decide,h3, .inl ⟨rfl,rfl⟩⟩
    ·have hb:=I'.bP j;rw[q2] at hb;have g1:(B0.join B' rn nr H).e (B0.H.length+k)=_:=g1;rw[g1,show B9 B' rn k=B'.b j by unfold B9;rw[q1]];obtain⟨b1,b2,b3⟩:=hb (show 1<=2 by decide);intro _;have hx:List.length x<=List.length r/\∀c o,bQ (bI B'.F B'.w e) e.cells r c o->bQ (bI B'.F B'.w e) e.cells x c o:=by
      subst q3;cases n with
      |none=>exact⟨adw _,λc o h=>h⟩
      |some n=>exact⟨by show List.length (List.take n r)<=_;rw[adY];omega,λc o h=>bQ.take n h⟩
     refine⟨Nat.lt_of_le_of_lt hx.1 b1,b2,?_⟩;rcases b3 with⟨g,g'⟩|⟨b,cs,T,fz,m1,m2,m3,m4,m5⟩
     ·exact .inl ⟨g,ade⟩
     ·exact .inr ⟨b,cs,T,fz,m1,m2,m3,aem (ae4 _ hx.1) m4,bQ.mono (bI.mono Hd.k e) x _ _ (hx.2 _ _ m5)⟩
  ·exact jO kY
 ·have h1:=jx g1;rcases kF I0 I' L' hs J (xM h1) with hi|⟨a,ha,rfl⟩<;>rcases kF I0 I' L' hs J (xM g3) with hj|⟨c,hc,rfl⟩
  ·obtain⟨_,_,_,a4,_⟩:=jG I0 I' L' hs J hi h1;obtain⟨c1,_⟩:=jG I0 I' L' hs J hj g3;rw[iu I0 hi] at g4;rw[iu I0 hj] at g5;exact I0.inj i j b s s' (a4 g1).1 c1 g4 g5
  ·exact(clash hi h1 hc g4 g5).elim
  ·exact(clash hj g3 ha g5 g4).elim
  ·obtain⟨j1,n1,e1,r1,q1,q2,q3⟩:=jF I0 I' L' hs J ha g4;obtain⟨j2,n2,e2,r2,p1,p2,p3⟩:=jF I0 I' L' hs J hc g5;have:=I'.inj j1 j2 b s s' (.inl (by rw[q3])) (by rw[p3];exact show 1<=2 by decide) q2 p2;subst this;rw[D a c j1 n1 n2 q1 p1]
 ·rcases kF I0 I' L' hs J (by rw[g1];decide) with hi|⟨k,hk,rfl⟩
  ·obtain⟨_,_,_,a4,a5⟩:=jG I0 I' L' hs J hi ade;rw[iu I0 hi] at g2;refine I0.lo j b s ?_ g2;rcases a5 with⟨_,_,_,h,_⟩|⟨_,q2,_⟩
   ·exact h
   ·rw[<-q2];exact g1
  ·obtain⟨j1,n1,e1,r1,q1,q2,q3⟩:=jF I0 I' L' hs J hk g2;intro hO;have hn:=I'.lo j1 b s (by rw[q3]) q2;obtain⟨j0,s0,k1,k2,k3⟩:=RT I0 I' L' hs J (I0.old b hO).1 hn;exact I0.lo j0 b s0 k2 k3 hO
 ·rcases kF I0 I' L' hs J (xM g1) with hi|⟨k,hk,rfl⟩
  ·obtain⟨a1,_⟩:=jG I0 I' L' hs J hi g1;rw[iu I0 hi] at g2;exact I0.fr j b s a1 g2
  ·obtain⟨j1,n1,e1,r1,q1,q2,q3⟩:=jF I0 I' L' hs J hk g2;exact I'.fr j1 b s (by rw[q3];exact show 1<=2 by decide) q2
 ·obtain⟨h1,h2⟩:=I0.old b h;have hk:CD B0 U b:=⟨h1,λj s _ k2 k3=>I0.lo j b s k2 k3 h⟩;exact⟨aef h1 hz,((I'.old b hk).2).trans h2⟩
 ·obtain⟨k1,k2,k3,k4⟩:=I0.lk x hx;refine⟨by show _<H.length;rw[J.len];omega,?_,by rw[iu I0 k1];exact k3,k4⟩;rcases J.lo x.1 k1 with hb|⟨_,g⟩|⟨_,g⟩
  ·obtain⟨t,c,md,rn',l,i',rn1,g1,_⟩:=hb;have g1:B'.e x.1=⟨1, .box t c⟩:=by show nth .bu B'.H x.1=_;rw[<-hs];exact g1
   obtain⟨q1,_⟩:=uC I0 I' L' hs J k1 g1;rw[k2] at q1;exact absurd q1 k4
  ·rw[k2] at g;exact absurd g k4
  ·exact(show(B0.join B' rn nr H).e x.1=B0.e x.1 from g).trans k2
end
end
noncomputable section
variable [pf]
theorem DD (wr:List (Nat×TypeId)):∀(l:List TV) (i j:Nat),nth .bU (kz wr l i) j=if(cH (i+j) wr).isSome=true then .bU else nth .bU l j
 |[],i,j=>by show TV.bU=_;split<;>rfl
 |x::l,i,0=>by
  show(bif (cH i wr).isSome then TV.bU else x)=if(cH (i+0) wr).isSome=true then TV.bU else x
  rw[ae9];cases(cH i wr).isSome<;>rfl
 |x::l,i,j+1=>by
  show nth .bU (kz wr l (Nat.succ i)) j=_;rw[DD wr l (Nat.succ i) j,show Nat.succ i+j=i+(j+1) by omega];rfl
theorem lY (wr:List (Nat×TypeId)):∀(l:List TV) (i:Nat),(kz wr l i).length=l.length
 |[],_=>rfl
 |_::l,i=>congrArg (·+1) (lY wr l (Nat.succ i))
theorem rK {B0 J:Bs} {s:TS} {a a':Act} {w:World} {wr:List (Nat×TypeId)} (S:gC B0 s a w) (L:bo B0 J) (k:dO wr a a') (t:Nat):Rv J (nth .bU (kz wr s.fr 0) t) (a'.tmps.getD t undef):=by
 rw[DD,adI];cases h:cH t wr with
 |some y=>exact trivial
 |none=>
  show Rv J (nth .bU s.fr t) _;rw[k.2 t h];exact(S.sl t).mono L
def h_ (S:Nat->Prop) (h h':List TE):Prop:=h'.length=h.length/\∀i,(nth .bu h' i=⟨9,(nth .bu h i).b⟩/\(nth .bu h i).st=1/\S i)\/(nth .bu h' i=nth .bu h i/\((nth .bu h i).st=1->¬S i))
theorem h_.refl (h:List TE):h_ (λ_=>False) h h:=⟨rfl,λ_=> .inr ⟨rfl,λ_ h=>h⟩⟩
theorem h_.trans {S S':Nat->Prop} {h h' h'':List TE} (k:h_ S h h') (k':h_ S' h' h''):h_ (λi=>S i\/S' i) h h'':=by
 refine⟨k'.1.trans k.1,λi=> ?_⟩;rcases k.2 i with⟨a1,a2,a3⟩|⟨a1,a2⟩
 ·rcases k'.2 i with⟨b1,b2,_⟩|⟨b1,_⟩
  ·rw[a1] at b2;exact absurd b2 (show¬9=1 by decide)
  ·exact .inl ⟨b1.trans a1,a2, .inl a3⟩
 ·rcases k'.2 i with⟨b1,b2,b3⟩|⟨b1,b2⟩
  ·rw[a1] at b1 b2;exact .inl ⟨b1,b2, .inr b3⟩
  ·rw[a1] at b1 b2;exact .inr ⟨b1,λh=>(λg=>g.elim (a2 h) (b2 h))⟩
theorem h_.congr {S S':Nat->Prop} {h h':List TE} (k:h_ S h h') (e:∀i,S i↔S' i):h_ S' h h':=⟨k.1,λi=>(k.2 i).imp (λ⟨a,b,c⟩=>⟨a,b,(e i).1 c⟩) λ⟨a,b⟩=>⟨a,λg g'=>b g ((e i).2 g')⟩⟩
theorem NF (j:Nat) (h:List TE):h_ (λi=>i=j) h (kill j h):=by
 unfold kill;split
 ·rename_i hs;refine⟨nu,λi=> ?_⟩;have hj:j<h.length:=by
   apply aeg;intro h';rw[dw _ _ _ h'] at hs;cases hs
  show(nth .bu (setAt _ h j) i=_/\_)\/(nth .bu (setAt _ h j) i=_/\_);rw[cx]
  by_cases e:i=j
  ·rw[adp ⟨e,hj⟩,e];exact .inl ⟨rfl,hs,rfl⟩
  ·rw[adq (λh=>e h.1)];exact .inr ⟨rfl,λ_=>e⟩
 ·rename_i hs;refine⟨rfl,λi=> .inr ⟨rfl,λh1 e=> ?_⟩⟩;subst e;exact hs h1
theorem uH:∀(rn:Rn) (h:List TE),h_ (λi=>∃k n,nth none rn k=some (i,n)) h (nk rn h)
 |[],h=>(h_.refl h).congr λi=>⟨λh=>h.elim,λ⟨_,_,h⟩=>by cases h⟩
 |none::r,h=>(uH r h).congr λi=>⟨λ⟨k,n,e⟩=>⟨k+1,n,e⟩,λ⟨k,n,e⟩=>by cases k with
  |zero=>cases e
  |succ k=>exact⟨k,n,e⟩⟩
 |some (j,n)::r,h=>((NF j h).trans (uH r (kill j h))).congr λi=>⟨λg=>by
   rcases g with rfl|⟨k,n',e⟩
   ·exact⟨0,n,rfl⟩
   ·exact⟨k+1,n',e⟩,λ⟨k,n',e⟩=>by
   cases k with
   |zero=>
    have e:some (j,n)=some (i,n'):=e;cases e;exact .inl rfl
   |succ k=>exact .inr ⟨k,n',e⟩⟩
theorem uI:∀(W ks:List Nat) (h:List TE),h_ (λi=>i∈W/\i∉ks) h (qE W ks h)
 |[],ks,h=>(h_.refl h).congr λi=>⟨λh=>h.elim,λh=>by cases h.1⟩
 |j::r,ks,h=>by
  show h_ _ h (bif fy j ks then qE r ks h else qE r ks (kill j h));cases hm:fy j ks with
  |true=>
   have hm:=dz.1 hm;exact(uI r ks h).congr λi=>⟨λ⟨a,b⟩=>⟨ady _ a,b⟩,λ⟨a,b⟩=>⟨(adK.1 a).resolve_left (λe=>b (e▸hm)),b⟩⟩
  |false=>
   have hm:j∉ks:=λh=>by rw[dz.2 h] at hm;cases hm
   exact((NF j h).trans (uI r ks (kill j h))).congr λi=>⟨λg=>g.elim (λe=>⟨by rw[e];exact adt,by rw[e];exact hm⟩) λ⟨a,b⟩=>⟨ady _ a,b⟩,λ⟨a,b⟩=>(adK.1 a).imp id λa=>⟨a,b⟩⟩
theorem h_.base {B0:Bs} {U ks:List Nat} {S:Nat->Prop} {h':List TE} (k:h_ S B0.H h') (hU:∀i,i∈U->i∉ks->S i):jj B0 U ks h':=by
 refine⟨k.1,λj _ hk=> ?_⟩;rcases k.2 j with⟨a1,a2,_⟩|⟨a1,a2⟩
 ·exact .inl ⟨a1,a2⟩
 ·refine .inr ⟨?_,a1⟩
  by_cases e:(B0.e j).st=1
  ·exact .inl λh=>a2 e (hU j h hk)
  ·exact .inr e
theorem E_ {i:Nat}:∀{rn:Rn},i∈cA [] rn->∃k n,nth none rn k=some (i,n)
 |[],h=>by cases h
 |none::r,h=>by
  obtain⟨k,n,e⟩:=E_ (rn:=r) h;exact⟨k+1,n,e⟩
 |some (j,n)::r,h=>by
  rcases adK.1 h with h|h
  ·exact⟨0,n,by rw[h];rfl⟩
  ·obtain⟨k,n,e⟩:=E_ (rn:=r) h;exact⟨k+1,n,e⟩
theorem wG {bP:List (Nat×Ty×Md)} {rn:Rn} {i:Nat} (h:i∈cA bP rn):i∈bP.map (·.1)\/∃k n,nth none rn k=some (i,n):=by
 rcases adC.1 h with h|h
 ·exact .inl h
 ·exact .inr (E_ (rn:=rn) h)
theorem ql {wr:List (Nat×TypeId)} {W:List Nat} {bP:List (Nat×Ty×Md)} {rn:Rn} {fr:List TV} {h:List TE}:h_ (λi=>(i∈W/\i∉bP.map (·.1))\/∃k n,nth none rn k=some (i,n)) h (c_ wr W bP rn fr h).hp:=
 (uI W (bP.map (·.1)) h).trans (uH rn _)
theorem se {B0:Bs} {wr:List (Nat×TypeId)} {W:List Nat} {bP:List (Nat×Ty×Md)} {rn:Rn} {fr:List TV} {h:List TE} (hh:h=B0.H):jj B0 (W++cA bP rn) (bP.map (·.1)) (c_ wr W bP rn fr h).hp:=by
 subst hh;refine ql.base λi hi hk=> ?_
 rcases adC.1 hi with hi|hi
 ·exact .inl ⟨hi,hk⟩
 ·exact(wG hi).elim (λh=>absurd h hk) .inr
theorem Ip {B0:Bs} {wr:List (Nat×TypeId)} {W:List Nat} {bP:List (Nat×Ty×Md)} {rn rnx:Rn} {fr:List TV} {h:List TE} (hh:h=B0.H):jj B0 (W++cA bP rn) (bP.map (·.1)) (nk rnx (c_ wr W bP rn fr h).hp):=by
 subst hh;refine(ql.trans (uH rnx _)).base λi hi hk=> .inl ?_
 rcases adC.1 hi with hi|hi
 ·exact .inl ⟨hi,hk⟩
 ·exact(wG hi).elim (λh=>absurd h hk) .inr
theorem Iq {B0:Bs} {wr:List (Nat×TypeId)} {W:List Nat} {bP:List (Nat×Ty×Md)} {rn:Rn} {fr:List TV} {h:List TE} (hh:h=B0.H):jj B0 (W++cA bP rn) [] (qE (bP.map (·.1)) [] (c_ wr W bP rn fr h).hp):=by
 subst hh;refine(ql.trans (uI (bP.map (·.1)) [] _)).base λi hi _=> ?_
 by_cases e:i∈bP.map (·.1)
 ·exact .inr ⟨e,λh=>by cases h⟩
 ·refine .inl ?_;rcases adC.1 hi with hi|hi
  ·exact .inl ⟨hi,e⟩
  ·exact(wG hi).elim (λh=>absurd h e) .inr
theorem Jk {sh:Sh} {x:fE.T sh.iY} {l m q:List TV} (hx:ga sh.iY x=l++(m++q)) {base:TS} (h1:(mo (λk=> .r (base.hp.length+k)) sh.loc (l++(m++q)) base).2=m++q) (h2:(iQ (λk=> .r (base.hp.length+k)) sh.bP (m++q) (mo (λk=> .r (base.hp.length+k)) sh.loc (l++(m++q)) base).1).2=q):
 dt sh x base=jt sh.rows q (iQ (λk=> .r (base.hp.length+k)) sh.bP (m++q) (mo (λk=> .r (base.hp.length+k)) sh.loc (l++(m++q)) base).1).1:=by
 unfold dt;rw[hx];dsimp only;generalize mo (λk=>TV.r (base.hp.length+k)) sh.loc (l++(m++q)) base=A at h1 h2⊢;obtain⟨s1,l1⟩:=A;have h1:l1=m++q:=h1;subst h1;dsimp only at h2⊢;generalize iQ (λk=>TV.r (base.hp.length+k)) sh.bP (m++q) s1=A at h2⊢;obtain⟨s2,l2⟩:=A;have h2:l2=q:=h2;subst h2;rfl
def PZ (sh:Sh) (n:Nat):Prop:=(∀x∈sh.loc,∀j,Hm j x.2->j<n)/\∀x∈sh.bP,∀j,Hm j x.2.2->j<n
theorem oa {X:Fx} {B0 B':Bs} {U:List Nat} {sh:Sh} {s':TS} {x:fE.T sh.iY} {base:TS} {a':Act} {w':World} (I0:bw X B0) (I':bw (X.tC B0 U) B') (L':bo (B0.lock U) B') (S':gC B' s' a' w') (hp:eD sh s'=some x) (hb:jj B0 U (sh.bP.map (·.1)) base.hp) (EP:PZ sh B0.H.length)
 (BD:∀J,bo B0 J->∀t,Rv J (nth .bU base.fr t) (a'.tmps.getD t undef)) (hn:base.fr.length<=a'.tmps.size):
 ∃J is rn,bo B0 J/\bw X J/\gC J (dt sh x base) a' w'/\Kk B0 B' s' U sh.bP is rn sh.rows.length (dt sh x base).hp/\J=B0.join B' rn sh.rows.length (dt sh x base).hp:=by
 obtain⟨l,m,q,i,i',rn1,rn,h,P⟩:=D9 hp;have hl:rn.length=sh.rows.length:=by rw[P.B.sub.2.1,P.L.sub.2.1,ae0]
 have hN:=hb.1;obtain⟨f1,f2,f3⟩:=P.L.inj (λk=> .r (base.hp.length+k)) (m++q) base;have Tp:jj B0 U (sh.bP.map (·.1)) (mo (λk=> .r (base.hp.length+k)) sh.loc (l++(m++q)) base).1.hp:=by rw[f2];exact hb
 have pJ:=P.B.Tz S'.H (U:=U) P.R hl Tp [];rw[adP,<-hN] at pJ;obtain⟨J,j2,j3⟩:=pJ;have ei:=Jk P.x f1 j3;rw[<-ei] at J j2;have D:gH rn:=P.B.sub.2.2 (P.L.sub.2.2 (gH.start _));have Av:=CA I0 I' L' S'.H J P.fz P.st (λj hj=>(adC.1 hj).elim (P.L.rows j) (P.B.rows j));have Hd:=sG I0 I' L' S'.H J;have L:=pG I0 I' L' S'.H J;refine⟨_,i',rn,L,CB I0 I' L' S'.H J D (λj hj=>Av j (adH _ hj)) EP.2,⟨rfl,S'.w,by rw[j2,f3];exact hn,λt=> ?_,S'.df⟩,J,rfl⟩;rw[j2];have:=P.L.rv I' Hd S'.H (a:=λt=>a'.tmps.getD t undef) S'.sl P.B.sub.1 EP.1 (λj hj=>Av j (adM _ hj)) (m++q) base (BD _ L) t;rw[<-hN] at this;exact this
end
end Go.Proofs.YtbjcjppphoppfaaGreat.T
