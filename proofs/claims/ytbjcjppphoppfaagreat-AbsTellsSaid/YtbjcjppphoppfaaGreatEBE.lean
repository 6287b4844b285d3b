import Derived.Test.YtbjcjppphoppfaaGreatEBD
set_option linter.all false
namespace Go.Proofs.YtbjcjppphoppfaaGreat.M
open Go.Proofs.YtbjcjppphoppfaaGreat.T hiding a8 ae av aH aw bd bM cC
def SZ (l:List aT) (t:Nat):Int×Int:=a8 (dK 1000000 l l.length) t
theorem Bm (cap:Int) (l:List aT):∀{n i j:Nat},i<=n->j<i->a8 (dK cap l n) j=a8 (dK cap l i) j
 |n,i,j,hi,hj=>by
  induction n with
  |zero=>omega
  |succ n ih=>
   by_cases e:i=n+1
   ·rw[e]
   ·rw[dK,dI (by rw[cN];omega),ih ade]
theorem Fz (cap:Int) (l:List aT) {n i:Nat} (hi:i<n):a8 (dK cap l n) i=oT cap (dK cap l i) (a8 l i):=by
 rw[Bm cap l (show i+1<=n by omega) ade,dK,gE (cN cap l i)]
theorem wt {cap:Int} {c c':List (Int×Int)} {fs:List cy}:∀k,(∀j,j<k->a8 c (a8 fs j).2.1.toNat=a8 c' (a8 fs j).2.1.toNat)->cR cap c fs k=cR cap c' fs k
 |0,_=>rfl
 |k+1,h=>by
  have ih:=wt (cap:=cap) k λj hj=>h j ade
  simp only[cR,ih,h k ade]
theorem sJ {cap:Int} (jT:0<=cap/\cap<=1048576) {c:List (Int×Int)} (hc:qW c) {fs:List cy} (hf:Hz c.length fs):∀n k,k<=n->n<=fs.length->(cR cap c fs k).1<=(cR cap c fs n).1
 |0,k,hk,_=>by rw[show k=0 by omega];exact Int.le_refl _
 |n+1,k,hk,hn=>by
  by_cases e:k=n+1
  ·rw[e];exact Int.le_refl _
  ·have ih:=sJ jT hc hf n k ade ade;obtain⟨i1,i2,i3⟩:=eW jT hc hf n ade;obtain⟨f1,f2⟩:=hf n ade;obtain⟨s1,s2,s3⟩:=hc (a8 fs n).2.1.toNat ade;have:=iK i1 s3;simp only[cR];omega
theorem wv {c c':List (Int×Int)} (hl:c.length=c'.length) (hc:qW c) (hc':qW c') (hr:∀j,j<c.length->RS (a8 c j) (a8 c' j)) {fs:List cy} (hf:Hz c.length fs) {n:Nat} (hn:n<=fs.length) (hs:(cR 1000000 c' fs n).1<=256):∀k,k<=n->cR 1048576 c fs k=cR 1000000 c' fs k
 |0,_=>rfl
 |k+1,hk=>by
  have ih:=wv hl hc hc' hr hf hn hs k ade;have hf':Hz c'.length fs:=by rw[<-hl];exact hf
  have m1:=sJ (cap:=1000000) ade hc' hf' n (k+1) hk hn;obtain⟨j1,j2,j3⟩:=eW (cap:=1000000) ade hc' hf' k ade;obtain⟨f1,f2⟩:=hf k ade;obtain⟨q1,q2⟩:=hr (a8 fs k).2.1.toNat ade;obtain⟨t1,t2,t3⟩:=hc' (a8 fs k).2.1.toNat ade;have u2:=iK j1 t3;simp only[cR] at m1;have e1:(a8 c (a8 fs k).2.1.toNat).1=(a8 c' (a8 fs k).2.1.toNat).1:=by
   rcases q1 with q1|q1
   ·exact q1
   ·omega
  simp only[cR,ih,e1,q2];refine Prod.ext ?_ rfl;dsimp only;omega
structure YT (l:List aT) (t:Nat):Prop where
 o:∀k,k<(a8 l t).2.2.2.1.length->0<=a8 (cR 1000000 (dK 1000000 l l.length) (a8 l t).2.2.2.1 (a8 l t).2.2.2.1.length).2.2 k/\a8 (cR 1000000 (dK 1000000 l l.length) (a8 l t).2.2.2.1 (a8 l t).2.2.2.1.length).2.2 k+(SZ l (a8 (a8 l t).2.2.2.1 k).2.1.toNat).1<=(SZ l t).1
 e:(cR 1000000 (dK 1000000 l l.length) (a8 l t).2.2.2.1 (a8 l t).2.2.2.1.length).1<=256
theorem wu {cap:Int} {c:List (Int×Int)} {fs:List cy}:∀{n k:Nat},k<n->a8 (cR cap c fs n).2.2 k=mQ (cR cap c fs k).1 (a8 c (a8 fs k).2.1.toNat).2
 |n+1,k,hk=>by
  show a8 ((cR cap c fs n).2.2++[_]) k=_
  by_cases e:k<n
  ·rw[dI (by rw[fQ];exact e)];exact wu e
  ·have e:k=n:=by omega
   subst e;rw[gE (fQ ..)]
theorem Pc {l:List aT} (hk:fm l=0) {t:Nat} (ht:t<l.length) (h5:(a8 l t).1=5) (hs:(SZ l t).1<=256):YT l t:=by
 obtain⟨z1,z2⟩:=cw hk;have ho:=dq (z2 t ht);have hc:=gn (cap:=1000000) ade l.length z2;have jq:=cN 1000000 l l.length;have hf:Hz (dK 1000000 l l.length).length (a8 l t).2.2.2.1:=λk hk=>by
  have:=ho.f k hk;omega
 have eS:(SZ l t).1=min 1000000 (mQ (cR 1000000 (dK 1000000 l l.length) (a8 l t).2.2.2.1 (a8 l t).2.2.2.1.length).1 (cR 1000000 (dK 1000000 l l.length) (a8 l t).2.2.2.1 (a8 l t).2.2.2.1.length).2.1):=by
  unfold SZ;rw[Fz 1000000 l ht];unfold oT;rw[adi,adi,adi,adi,adp h5];unfold Az;have ec:cR 1000000 (dK 1000000 l t) (a8 l t).2.2.2.1 (a8 l t).2.2.2.1.length=cR 1000000 (dK 1000000 l l.length) (a8 l t).2.2.2.1 (a8 l t).2.2.2.1.length:=wt _ λj hj=>by
   have:=ho.f j hj;exact(Bm 1000000 l ade ade).symm
  rw[ec]
 obtain⟨i1,i2,i3⟩:=eW (cap:=1000000) ade hc hf _ (adw _);have hu:=iK i1 i3;refine⟨λk hk=> ?_,ade⟩;rw[wu hk];obtain⟨j1,j2,j3⟩:=eW (cap:=1000000) ade hc hf k ade;obtain⟨f1,f2⟩:=hf k hk;obtain⟨s1,s2,s3⟩:=hc (a8 (a8 l t).2.2.2.1 k).2.1.toNat ade;have hu2:=iK j1 s3;have hm:=sJ (cap:=1000000) ade hc hf _ (k+1) hk (adw _);simp only[cR] at hm;unfold SZ at eS hs⊢;omega
def O4 (l:List aT) (t:Nat):List Int:=(cR 1000000 (dK 1000000 l l.length) (a8 l t).2.2.2.1 (a8 l t).2.2.2.1.length).2.2
theorem Vl {l:List aT} (hl:Fit (.sl ca) l) (hk:fm l=0) {t:Nat} (ht:t<l.length) (h5:(a8 l t).1=5) (hs:(SZ l t).1<=256):∃r,Ed l (a8 l t).2.2.2.1=some r/\r.1=O4 l t:=by
 obtain⟨z1,z2⟩:=cw hk;have ho:=dq (z2 t ht);have st:=Pc hk ht h5 hs;have jq:=cN 1048576 l l.length;have hc:=gn (cap:=1048576) ade l.length z2;have hc':=gn (cap:=1000000) ade l.length z2;have Jh:=rE z2 l.length (adw _);have hn:=ho.n;have oO:∀k,k<(a8 l t).2.2.2.1.length->0<=(a8 (a8 l t).2.2.2.1 k).2.1/\(a8 (a8 l t).2.2.2.1 k).2.1<l.length:=λk hk=>by
  have:=ho.f k hk;omega
 have hso:=st.o;have hse:=st.e;unfold Ed O4;unfold SZ at hso;generalize(a8 l t).2.2.2.1=fs at hn oO hso hse⊢;rw[vF hl,a9,aC (cQ hk),aC (by rw[aE];exact adg),Ei z1 z2,a9];have el:((dK 1048576 l l.length).map ext).length=l.length:=by rw[ae0,jq]
 have hf:Hz (dK 1048576 l l.length).length fs:=λk hk=>by rw[jq];exact oO k hk
 rw[bA fs.length (λ_=>true) ([],0,0,2) () ade ?_ ?_]
 ·rw[adp (by simp)];rw[bA fs.length (λ_=>true) ([],0,0,16) () ade ?_ ?_]
  ·rw[adp (by simp),Ej hc ade hf (by rw[el,jq];exact adw _) (λj hj=>eC _ hj),a9];refine⟨_,rfl,?_⟩;show(cR 1048576 (dK 1048576 l l.length) fs fs.length).2.2=_;rw[wv (by rw[cN,cN]) hc hc' (λj hj=>Jh j ade) hf (adw _) hse _ (adw _)]
  ·intro k hk';obtain⟨f1,f2⟩:=oO k hk';have e1:a8 ((dK 1048576 l l.length).map ext) (a8 fs k).2.1.toNat=ext (a8 (dK 1048576 l l.length) (a8 fs k).2.1.toNat):=eC _ ade;have hb:¬256<(a8 (dK 1048576 l l.length) (a8 fs k).2.1.toNat).1:=by
    obtain⟨r1,r2⟩:=Jh (a8 fs k).2.1.toNat ade;have h2:=hso k hk';have h3:(a8 (dK 1000000 l l.length) (a8 fs k).2.1.toNat).1<=256:=by unfold SZ at hs;omega
    unfold RR at r1;omega
   simp only[cZ,hk',ao,ads,adA,ak];rw[bE f1 ade,e1,aE,adq (by rw[adk];exact hb),aU ade];rfl
  ·rw[ba];rfl
 ·intro k hk';obtain⟨f1,f2⟩:=oO k hk';have:(af (aO (a8 fs k).2.1 0) (λ_=>(some true)) λ_=>(some (cB l.length (a8 fs k).2.1)))=some false:=by
   rw[aC (by rw[aE];exact adg),aN,adg]
  simp only[cZ,hk',ads,ak,adA];rw[aD rfl,this,join_some,aC rfl,aU ade];rfl
 ·rw[ba];rfl
theorem Va {l:List aT} (hk:fm l=0) {t:Nat} (ht:t<l.length):∃r,ID l (a8 l t).2.2.2.1=some r/\r.1=O4 l t:=by
 obtain⟨z1,z2⟩:=cw hk;have ho:=dq (z2 t ht);have hc:=gn (cap:=1000000) ade l.length z2;have jq:=cN 1000000 l l.length;unfold ID;rw[py z1 z2,a9,Eg hc (by have:=ho.n;omega) (λk hk=>by have:=ho.f k hk;omega),a9];exact⟨_,rfl,rfl⟩
def nA (s:Int):Nat->List Int
 |0=>[]
 |k+1=>nA s k++[(k:Int)*s]
theorem iv (s:Int):∀k,(nA s k).length=k
 |0=>rfl
 |k+1=>by rw[nA,ado,iv s k];rfl
theorem qV (s:Int):∀{k j:Nat},j<k->a8 (nA s k) j=(j:Int)*s
 |k+1,j,h=>by
  by_cases hj:j<k
  ·rw[nA,dI (by rw[iv];exact hj),qV s hj]
  ·have:j=k:=by omega
   subst this;rw[nA,gE (iv s j)]
theorem ra {α:Type} (k:Nat) (x:α):List.replicate k x++[x]=List.replicate (k+1) x:=by rw[<-List.replicate_succ']
structure Kf (r:aq) (a:Nat) (b:List Nat):Prop where
 l:r.1<=a
 h:a+b.length<=r.1+r.2.1.length
 e:∀j,j<b.length->a8 b j=a8 r.2.1 (a-r.1+j)
theorem ze {α:Type} [Zr α] (l:List α) (o j:Nat):a8 (l.drop o) j=a8 l (o+j):=by
 show(l.drop o).getD j Zr.z=l.getD (o+j) Zr.z;rw[adG,adG,List.getElem?_drop]
theorem Kf.drop {r:aq} {a:Nat} {b:List Nat} (h:Kf r a b) {o:Nat} (ho:o<=b.length):Kf r (a+o) (b.drop o):=by
 have h1:=h.l;have h2:=h.h;refine⟨ade,by rw[ael];omega,λj hj=> ?_⟩;rw[ael] at hj;rw[ze,h.e _ ade];congr 1;omega
theorem tY {b c:List Nat} {o p:Nat}:∀k,(∀j,j<k->a8 b (o+j)=a8 c (p+j))->cX b o k=cX c p k
 |0,_=>rfl
 |k+1,h=>by
  simp only[cX];rw[tY k λj hj=>h j ade,h k ade]
theorem Kf.word {r:aq} {a:Nat} {b:List Nat} (h:Kf r a b) {o:Nat} (ho:o+8<=b.length):cX b o 8=cX r.2.1 (a+o-r.1) 8:=tY 8 λj hj=>by
 have:=h.l;rw[h.e _ ade];congr 1;omega
structure VC (l:List aT) (rs:List aq) (s:Nat):Prop where
 ft:Fit (.sl ca) l
 fr:Fit (.sl aP) rs
 k:fm l=0
 r:fO rs=0
 b:s<l.length
 z:∀t,lu l s t->(SZ l t).1<=256
theorem VC.lt {l:List aT} {rs:List aq} {s:Nat} (c:VC l rs s) {t:Nat} (h:lu l s t):t<l.length:=by
 have z:=(cw c.k).2
 induction h with
 |here=>exact c.b
 |step i k hi hk ih=>exact AA z ih hk
theorem VC.size {l:List aT} {rs:List aq} {s:Nat} (c:VC l rs s) {t:Nat} (h:lu l s t):s_ l (t:Int)=((SZ l t).1,(SZ l t).2,0)/\1<=(SZ l t).1:=by
 have iJ:=c.lt h;have hz:=c.z t h;have hp:=rD (cap:=1000000) ade l.length (cw c.k).2 t iJ;have e:iz l (t:Int)=0:=by
  unfold iz;rw[adp c.k,adi,adx,adq (by unfold SZ at hz;omega)]
 refine⟨?_,hp⟩;unfold s_;rw[adp e];rfl
theorem VC.xS {l:List aT} {rs:List aq} {s:Nat} (c:VC l rs s) {t:Nat} (h:lu l s t):xS l (t:Int)=some (SZ l t).1:=by
 unfold M.xS;rw[sj c.ft,(c.size h).1];rfl
theorem VC.xR {l:List aT} {rs:List aq} {s:Nat} (c:VC l rs s) {t:Nat} (h:lu l s t):xR l (t:Int)=some (SZ l t).1:=by
 have z:=cw c.k;have iJ:=c.lt h;have e1:a8 ((dK 1000000 l l.length).map (·.1)) t=(SZ l t).1:=eC _ (by rw[cN];exact iJ);unfold M.xR Wi;rw[py z.1 z.2,a9,ak,adp (by rw[ae0,cN];exact iJ),e1];rfl
abbrev gv0:GV:=iP (0,(0,([],([],(false,())))))
def Y0 (v:Nat->GV×Int):Nat->List GV
 |0=>[]
 |k+1=>Y0 v k++[(v k).1]
theorem By (v:Nat->GV×Int):∀k,(Y0 v k).length=k
 |0=>rfl
 |k+1=>by rw[Y0,ado,By v k];rfl
structure FM (b:List Nat) (ts os:List Int):Prop where
 n:ts.length<=1000
 l:os.length=ts.length
 o:∀j,j<ts.length->0<=a8 os j/\a8 os j<=b.length
theorem AD {l:List aT} {rs:List aq} {r:aq} {a:Nat} {b:List Nat} {ts os:List Int} {d:Int} {t0:Nat} (ht0:t0<l.length) (hD:Kf r a b) (hb:b.length<=100000) (ha:a+b.length<18446744073709551616) (P:FM b ts os) (g:dp->(List Nat)->Int->Int->Option (GV×Int)) (g':(List aT)->(List aq)->Nat->Int->Int->Option (GV×Int))
 (h:∀j,j<ts.length->∃v,g (l,rs,()) (b.drop (a8 os j).toNat) (a8 ts j) d=some v/\g' l rs (a+(a8 os j).toNat) (a8 ts j) d=some v):
 ∃(vs:List GV) (e:Int),C5 g (l,rs,()) b ts os d=some (vs,e)/\Lq g' l rs a (t0:Int) ts os d=some (if e=0 then iP ((a8 l t0).1,(0,([],(vs,(false,()))))) else gv0,e):=by
 have hn:=P.n;have hv:∀j:Nat,∃v:GV×Int,j<ts.length->g (l,rs,()) (b.drop (a8 os j).toNat) (a8 ts j) d=some v/\g' l rs (a+(a8 os j).toNat) (a8 ts j) d=some v:=λj=>by
  by_cases hj:j<ts.length
  ·obtain⟨v,hv⟩:=h j hj;exact⟨v,λ_=>hv⟩
  ·exact⟨(gv0,0),λh=>absurd h hj⟩
 obtain⟨v,hv⟩:=Classical.axiomOfChoice hv;unfold C5 Lq;rw[ak,adp ht0];rw[bS (λj=>((j:Int),Y0 v j)) ts.length (λj=>decide ((v j).2=0)) (λj=>([],(v j).2)) (Y0 v ts.length) ?_ ade ?_ ?_];rotate_left
 ·rfl
 ·intro j hj _;obtain⟨o1,o2⟩:=P.o j hj;have W_:j<os.length:=by rw[P.l];exact hj
  have etk:av (bt b.length (a8 os j).toNat) (aH (a8 os j).toNat b)=b.drop (a8 os j).toNat:=by
   show List.take (b.length-(a8 os j).toNat) (List.drop _ b)=_;rw[List.take_of_length_le];rw[ael];omega
  simp only[cZ,hj,W_,ao,ads,adA,ak,aU (show j<9223372036854775807 by omega)];rw[T.d4,adh,etk,(hv j hj).1,a9,aY (by rw[ay,By];omega)]
  by_cases hz:(v j).2=0
  ·rw[adq (by rw[cQ hz];decide),adp (adm hz)];rfl
  ·rw[adp (bG hz),adq (by simpa using hz)];rfl
 ·intro _;rw[ba];rfl
 rw[bS (λj=>((j:Int),0,0,[],false,(a8 l t0).1,0,[],false,[],Y0 v j)) ts.length (λj=>decide ((v j).2=0)) (λj=>(gv0,(v j).2)) (0,0,[],false,(a8 l t0).1,0,[],false,[],Y0 v ts.length) ?_ ade ?_ ?_];rotate_left
 ·rfl
 ·intro j hj _;obtain⟨o1,o2⟩:=P.o j hj;have W_:j<os.length:=by rw[P.l];exact hj
  have ead:cP 7 a (bF 7 (a8 os j))=a+(a8 os j).toNat:=by
   obtain⟨q,hq⟩:∃q:Nat,a8 os j=q:=⟨(a8 os j).toNat,ade⟩;rw[hq,ky ade,adx,gS ade]
  simp only[cZ,hj,W_,ao,ads,adA,ak,ead,(hv j hj).2,a9,aU (show j<9223372036854775807 by omega)];rw[aY (by rw[ay,By];omega)]
  by_cases hz:(v j).2=0
  ·rw[adq (by rw[cQ hz];decide),adp (adm hz)];rfl
  ·rw[adp (bG hz),adq (by simpa using hz)];rfl
 ·intro _;rw[ba];rfl
 by_cases dj:(List.range ts.length).all (λj=>decide ((v j).2=0))=true
 ·rw[adp dj,adp dj];exact⟨_,0,rfl,rfl⟩
 ·rw[adq dj,adq dj];have uc:=(vJ dj).2;have qd:(v (fB (λj=>decide ((v j).2=0)) ts.length)).2≠0:=by simpa using uc
  exact⟨_,_,rfl,by rw[adq qd]⟩
theorem Xc {l:List aT} {t:Nat} (ho:UB l.length t (a8 l t)):(a8 l t).1=1\/(a8 l t).1=2\/(a8 l t).1=3\/(a8 l t).1=4\/(a8 l t).1=5\/(a8 l t).1=6\/(a8 l t).1=7:=by have:=ho.k;omega
theorem a7n {l:List aT} {t:Nat} (ht:t<l.length):((a8 l t).1=1->(SZ l t).1=1)/\((a8 l t).1=2->(SZ l t).1=8)/\((a8 l t).1=3->(SZ l t).1=16)/\((a8 l t).1=4->(SZ l t).1=8)/\((a8 l t).1=7->(SZ l t).1=24):=by
 unfold SZ;rw[Fz 1000000 l ht];unfold oT;refine⟨λh=> ?_,λh=> ?_,λh=> ?_,λh=> ?_,λh=> ?_⟩
 ·rw[adp h]
 ·rw[adi,adi,adi,adi,adi]
 ·rw[adi,adp h]
 ·rw[adi,adi,adi,adi,adi]
 ·rw[adi,adi,adp h]
theorem a7m {l:List aT} {t:Nat} (hk:fm l=0) (ht:t<l.length) (h6:(a8 l t).1=6) (hs:(SZ l t).1<=256):(SZ l t).1=(a8 l t).2.2.1*(SZ l (a8 l t).2.1.toNat).1:=by
 have ho:=dq ((cw hk).2 t ht);have ha:=ho.a h6;unfold SZ at*;rw[Fz 1000000 l ht] at*;unfold oT at*;rw[adi,adi,adi,adp h6] at*;rw[Bm 1000000 l (show t<=l.length by omega) (show(a8 l t).2.1.toNat<t by omega)];dsimp only at hs⊢;omega
def wW (l:List aT) (t:Nat):List Int:=if(a8 l t).1=5 then mJ (a8 l t).2.2.2.1 (a8 l t).2.2.2.1.length else List.replicate (a8 l t).2.2.1.toNat (a8 l t).2.1
def ur (l:List aT) (t:Nat):List Int:=if(a8 l t).1=5 then O4 l t else nA (SZ l (a8 l t).2.1.toNat).1 (a8 l t).2.2.1.toNat
theorem LK {t:aT} (h1:t.2.2.2.1.length<=1000) (h2:t.2.2.1<=1000):LJ t=some (mJ t.2.2.2.1 t.2.2.2.1.length++List.replicate t.2.2.1.toNat t.2.1):=by
 unfold LJ;rw[aV (λk=>((k:Int),mJ t.2.2.2.1 k)) t.2.2.2.1.length (mJ t.2.2.2.1 t.2.2.2.1.length) ?_ ade ?_ ?_]
 ·by_cases hn:0<=t.2.2.1
  ·obtain⟨c,hc⟩:∃c:Nat,t.2.2.1=c:=⟨t.2.2.1.toNat,ade⟩;rw[hc];rw[aV (λk=>((k:Int),mJ t.2.2.2.1 t.2.2.2.1.length++List.replicate k t.2.1)) c (mJ t.2.2.2.1 t.2.2.2.1.length++List.replicate c t.2.1) ?_ ade ?_ ?_]
   ·rw[adx]
   ·show _=(((0:Nat):Int),_++[]);rw[adP];rfl
   ·intro k hk;simp only[cZ,hk,ao,ads,adA,aU (show k<9223372036854775807 by omega)];rw[aY (by rw[ay,ado,adz,dE];omega)];show some (T.LR.ok (_,(_++_)++[_]))=_;rw[adQ,ra]
   ·simp only[ba,ao];rfl
  ·have:t.2.2.1.toNat=0:=by omega
   rw[this];rw[aV (λk=>((k:Int),mJ t.2.2.2.1 t.2.2.2.1.length)) 0 (mJ t.2.2.2.1 t.2.2.2.1.length) ?_ ade ?_ ?_]
   ·rw[List.replicate_zero,adP]
   ·rfl
   ·intro k hk;exact absurd hk (adS _)
   ·dsimp only;rw[aC (by rw[aE];exact adg)];rfl
 ·rfl
 ·intro k hk;have:=dE t.2.2.2.1 k;simp only[cZ,hk,ao,ads,adA,ak,aU (show k<9223372036854775807 by omega)];rw[aY (by rw[ay];omega)];rfl
 ·simp only[ba,ao];rfl
theorem Da {l:List aT} {rs:List aq} {s t:Nat} (c:VC l rs s) (hr:lu l s t) (h56:(a8 l t).1=5\/(a8 l t).1=6):LJ (a8 l t)=some (wW l t)/\LL l (a8 l t)=some (ur l t):=by
 have z:=cw c.k;have ht:=c.lt hr;have ho:=dq (z.2 t ht);have mK:=c.z t hr;have hn:=ho.n
 by_cases h5:(a8 l t).1=5
 ·have hc0:=ho.c ade;refine⟨?_,?_⟩
  ·rw[LK ade ade,hc0];unfold wW;rw[adp h5];show some (_++[])=_;rw[adP]
  ·obtain⟨r,h1,h2⟩:=Vl c.ft c.k ht h5 mK;unfold LL ur;rw[aD (by rw[ax];exact adm h5),h1,a9,adp h5,h2]
 ·have h6:(a8 l t).1=6:=by omega
  have ha:=ho.a h6;have n0:(a8 l t).2.2.2.1.length=0:=by
   by_cases n0:(a8 l t).2.2.2.1.length=0
   ·exact n0
   ·have:=ho.s n0;omega
  have uJ:lu l s (a8 l t).2.1.toNat:=by
   have X0:0<(dC (a8 l t)).length:=by unfold dC;rw[adp (Or.inl h6)];simp
   have:=lu.step t 0 hr X0;have e0:a8 (dC (a8 l t)) 0=(a8 l t).2.1:=by unfold dC;rw[adp (Or.inl h6)];rfl
   rwa [e0] at this
  have Tq:=c.z _ uJ;have J9:=(c.size uJ).2;refine⟨?_,?_⟩
  ·rw[LK ade ade,n0];unfold wW;rw[adq h5];rfl
  ·unfold LL ur;rw[aC (by rw[ax];exact adl h5),adq h5];obtain⟨k,hk⟩:∃k:Nat,(a8 l t).2.2.1=k:=⟨(a8 l t).2.2.1.toNat,ade⟩;obtain⟨q,hq⟩:∃q:Nat,(a8 l t).2.1=q:=⟨(a8 l t).2.1.toNat,ade⟩;rw[hq,adx] at uJ Tq J9;rw[hk,hq,adx,adx];have ez:xS l (q:Int)=some (SZ l q).1:=c.xS uJ;rw[aV (λj=>((j:Int),nA (SZ l q).1 j)) k (nA (SZ l q).1 k) ?_ ade ?_ ?_]
   ·rfl
   ·intro j hj;have K5:(j:Int)*(SZ l q).1<=16*256:=Int.mul_le_mul ade Tq ade ade;have hj3:0<=(j:Int)*(SZ l q).1:=Int.mul_nonneg ade ade;simp only[cZ,hj,ao,ads,adA,ez,a9,aU (show j<9223372036854775807 by omega)];rw[aY (by rw[ay,iv];omega),eh ade ade];rfl
   ·simp only[ba,ao];rfl
theorem HE {l:List aT} {rs:List aq} {s t:Nat} (c:VC l rs s) (hr:lu l s t) (h56:(a8 l t).1=5\/(a8 l t).1=6):QI l (t:Int)=some (wW l t,ur l t):=by
 have z:=cw c.k;have ht:=c.lt hr;have ho:=dq (z.2 t ht);have mK:=c.z t hr;have hn:=ho.n;unfold QI;rw[ak,adp ht]
 by_cases h5:(a8 l t).1=5
 ·obtain⟨r,h1,h2⟩:=Va (l:=l) c.k ht;rw[aD (by rw[ax];exact adm h5)];unfold wW ur;rw[adp h5,adp h5];rw[aV (λk=>((k:Int),mJ (a8 l t).2.2.2.1 k)) (a8 l t).2.2.2.1.length (mJ (a8 l t).2.2.2.1 (a8 l t).2.2.2.1.length) ?_ ade ?_ ?_]
  ·rw[ak,adp ht,h1,a9,h2]
  ·rfl
  ·intro k hk;have:=dE (a8 l t).2.2.2.1 k;simp only[ak,ht,adA,cZ,hk,ao,ads,aU (show k<9223372036854775807 by omega)];rw[aY (by rw[ay];omega)];rfl
  ·simp only[ak,ht,adA,ba,ao];rfl
 ·have h6:(a8 l t).1=6:=by omega
  have ha:=ho.a h6;have uJ:lu l s (a8 l t).2.1.toNat:=by
   have X0:0<(dC (a8 l t)).length:=by unfold dC;rw[adp (Or.inl h6)];simp
   have:=lu.step t 0 hr X0;have e0:a8 (dC (a8 l t)) 0=(a8 l t).2.1:=by unfold dC;rw[adp (Or.inl h6)];rfl
   rwa [e0] at this
  have Tq:=c.z _ uJ;have J9:=(c.size uJ).2;rw[aC (by rw[ax];exact adl h5)];unfold wW ur;rw[adq h5,adq h5];obtain⟨k,hk⟩:∃k:Nat,(a8 l t).2.2.1=k:=⟨(a8 l t).2.2.1.toNat,ade⟩;obtain⟨q,hq⟩:∃q:Nat,(a8 l t).2.1=q:=⟨(a8 l t).2.1.toNat,ade⟩;rw[hq,adx] at uJ Tq J9;have ez:xR l (q:Int)=some (SZ l q).1:=c.xR uJ;rw[aV (λj=>((j:Int),List.replicate j (q:Int),nA (SZ l q).1 j)) k (List.replicate k (q:Int),nA (SZ l q).1 k) ?_ ade ?_ ?_]
  ·rw[hk,hq,adx,adx]
  ·rfl
  ·intro j hj;have K5:(j:Int)*(SZ l q).1<=16*256:=Int.mul_le_mul ade Tq ade ade;have hj3:0<=(j:Int)*(SZ l q).1:=Int.mul_nonneg ade ade;simp only[ak,ht,adA,hk,hq,cZ,hj,ao,ads,ez,a9,aU (show j<9223372036854775807 by omega)];rw[aY (by rw[ay,adz];omega),aY (by rw[ay,iv];omega),eh ade ade];show some (T.LR.ok (_,_++[_],_))=_;rw[ra];rfl
  ·simp only[ak,ht,adA,hk,ba,ao];rfl
theorem OM {l:List aT} {rs:List aq} {s t:Nat} (c:VC l rs s) (hr:lu l s t) (h56:(a8 l t).1=5\/(a8 l t).1=6) {b:List Nat} (hb:(SZ l t).1<=b.length):FM b (wW l t) (ur l t)/\∀j,j<(wW l t).length->∃q:Nat,a8 (wW l t) j=q/\q<t/\lu l s q/\a8 (ur l t) j+(SZ l q).1<=b.length:=by
 have z:=cw c.k;have ht:=c.lt hr;have ho:=dq (z.2 t ht);have mK:=c.z t hr;have hn:=ho.n
 by_cases h5:(a8 l t).1=5
 ·have st:=Pc c.k ht h5 mK;unfold wW ur O4;rw[adp h5,adp h5];have uJ:∀j,j<(a8 l t).2.2.2.1.length->lu l s (a8 (a8 l t).2.2.2.1 j).2.1.toNat:=λj hj=>by
   have hle:dC (a8 l t)=mJ (a8 l t).2.2.2.1 (a8 l t).2.2.2.1.length:=by unfold dC;rw[adi];rfl
   have:=lu.step t j hr (by rw[hle,dE];exact hj)
   rwa [hle,sy _ hj] at this
  refine⟨⟨by rw[dE];omega,by rw[fQ,dE],λj hj=> ?_⟩,λj hj=> ?_⟩
  ·rw[dE] at hj;have:=st.o j hj;have:=(c.size (uJ j hj)).2;omega
  ·rw[dE] at hj;have h1:=st.o j hj;have h2:=ho.f j hj;refine⟨(a8 (a8 l t).2.2.2.1 j).2.1.toNat,?_,ade,uJ j hj,ade⟩;rw[sy _ hj];omega
 ·have h6:(a8 l t).1=6:=by omega
  have ha:=ho.a h6;have uJ:lu l s (a8 l t).2.1.toNat:=by
   have X0:0<(dC (a8 l t)).length:=by unfold dC;rw[adp (Or.inl h6)];simp
   have:=lu.step t 0 hr X0;have e0:a8 (dC (a8 l t)) 0=(a8 l t).2.1:=by unfold dC;rw[adp (Or.inl h6)];rfl
   rwa [e0] at this
  have Tq:=c.z _ uJ;have J9:=(c.size uJ).2;have hS:=a7m c.k ht h6 mK;unfold wW ur;rw[adq h5,adq h5];have RC:∀j,j<(a8 l t).2.2.1.toNat->0<=(j:Int)*(SZ l (a8 l t).2.1.toNat).1/\(j:Int)*(SZ l (a8 l t).2.1.toNat).1+(SZ l (a8 l t).2.1.toNat).1<=b.length:=λj hj=>by
   have h1:((j:Int)+1)*(SZ l (a8 l t).2.1.toNat).1<=(a8 l t).2.2.1*(SZ l (a8 l t).2.1.toNat).1:=Int.mul_le_mul_of_nonneg_right ade ade;have h2:((j:Int)+1)*(SZ l (a8 l t).2.1.toNat).1=(j:Int)*(SZ l (a8 l t).2.1.toNat).1+(SZ l (a8 l t).2.1.toNat).1:=by rw[Int.add_mul,Int.one_mul]
   exact⟨Int.mul_nonneg ade ade,ade⟩
  refine⟨⟨by rw[adz];omega,by rw[adz,iv],λj hj=> ?_⟩,λj hj=> ?_⟩
  ·rw[adz] at hj;rw[qV _ hj];have:=RC j hj;omega
  ·rw[adz] at hj;refine⟨(a8 l t).2.1.toNat,?_,ade,uJ,?_⟩
   ·rw[bz (by rw[adz];exact hj),List.getElem_replicate];omega
   ·rw[qV _ hj];exact(RC j hj).2
theorem mE {b:List Nat} (hb:okB b) (o:Nat):cX b o 8<18446744073709551616:=rN hb o 8
theorem Kf.okB {r:aq} {a:Nat} {b:List Nat} (h:Kf r a b) (hf:Fit aP r):okB b:=λj=>by
 by_cases hj:j<b.length
 ·rw[h.e j hj];exact kG hf.2.1 _
 ·rw[dJ ade];decide
theorem FW {r:aq} {a n:Nat} (h1:r.1<=a) (h2:a+n<=r.1+r.2.1.length):Kf r a (u6 r a n):=by
 refine⟨h1,by rw[lE h1 h2];exact h2,λj hj=> ?_⟩;rw[lE h1 h2] at hj;unfold u6;show((r.2.1.drop (a-r.1)).take n).getD j 0=_;rw[adG,List.getElem?_take,adp hj,<-adG];exact ze _ _ _
theorem HU {rs:List aq} {a n:Nat} (h:(ki rs a n).2=true):∃k,k<rs.length/\(ki rs a n).1=a8 rs k/\(a8 rs k).1<=a/\a+n<=(a8 rs k).1+(a8 rs k).2.1.length:=by
 unfold ki at h⊢;split at h
 ·rename_i hc;obtain⟨q1,q2⟩:=nY hc.2;have q3:=fG q2;rw[adp hc];exact⟨_,q1,rfl,q3.1,ade⟩
 ·cases h
theorem Ci {l:List aT} {rs:List aq} {s t:Nat} (c:VC l rs s) (hr:lu l s t) (Tm:(a8 l t).1=4\/(a8 l t).1=7) {d:Nat} (hd:d<=3) {p len cap:Nat} (hp:p<18446744073709551616) (hlc:len<=cap) (jT:cap<=16) (g:dp->(List Nat)->Int->Int->Option (GV×Int)) (g':(List aT)->(List aq)->Nat->Int->Int->Option (GV×Int))
 (IH:∀(q k a:Nat) (b:List Nat),1<=d->lu l s q->k<rs.length->Kf (a8 rs k) a b->(SZ l q).1<=b.length->∃v,g (l,rs,()) b (q:Int) ((d:Int)-1)=some v/\g' l rs a (q:Int) ((d:Int)-1)=some v):
 ∃v:GV×Int,(bind (Ek g (l,rs,()) p (a8 l t) (len:Int) (cap:Int) (d:Int)) (λv2=>(af (an (bm v2.2 0)) (λ_=>(some (gv0,v2.2))) λ_=>(some (v2.1,0)))))=some v/\Q_ g' l rs p (t:Int) (len:Int) (cap:Int) (d:Int)=some v:=by
 have z:=cw c.k;have ht:=c.lt hr;have ho:=dq (z.2 t ht);have hpe:=ho.p Tm;obtain⟨q,hq⟩:∃q:Nat,(a8 l t).2.1=q:=⟨(a8 l t).2.1.toNat,ade⟩;have uJ:lu l s q:=by
  have X0:0<(dC (a8 l t)).length:=by unfold dC;rw[adp (Or.inr Tm)];simp
  have:=lu.step t 0 hr X0;have e0:a8 (dC (a8 l t)) 0=(a8 l t).2.1:=by unfold dC;rw[adp (Or.inr Tm)];rfl
  rw[e0,hq,adx] at this;exact this
 have Tq:=c.z _ uJ;have J9:=(c.size uJ).2;have e268:xS l (q:Int)=some (SZ l q).1:=c.xS uJ;have e234:xR l (q:Int)=some (SZ l q).1:=c.xR uJ;obtain⟨sz,mK⟩:∃sz:Nat,(SZ l q).1=sz:=⟨(SZ l q).1.toNat,ade⟩;rw[mK] at e268 e234 Tq J9;have hm:sz*cap<=256*16:=Nat.mul_le_mul ade jT;have em:fg 3 (sz:Int) (cap:Int)=((sz*cap:Nat):Int):=by
  have:(sz:Int)*(cap:Int)=((sz*cap:Nat):Int):=by rw[Int.natCast_mul]
  rw[eh (by rw[this];omega) (by rw[this];omega),this]
 unfold Ek Q_;dsimp only;rw[ak,adp ht,hq,e268,a9,e234,a9,em,Ms c.fr c.r hp,a9,Ea c.r hp,a9]
 by_cases Nw:(ki rs p ((sz*cap:Nat):Int)).2=true
 ·obtain⟨k,hk,ek,r1,r2⟩:=HU Nw;rw[adp Nw,aC cE,aC (show an (ki rs p ((sz*cap:Nat):Int)).2=false by rw[Nw];rfl),ek]
  by_cases hl0:len=0
  ·subst hl0;rw[aG,adm (show((0:Nat):Int)=0 from rfl),join_some,aD rfl,a9,aC cE]
   by_cases hd0:d=0
   ·subst hd0;rw[aD (by rw[aG];rfl),ak,adp ht];refine⟨_,rfl,?_⟩;rw[show aO 0 ((0:Nat):Int)=false by rw[aE];rfl]
   ·rw[aC (by rw[aG];exact adg)];rw[aV (λj=>((j:Int),([]:List Int),([]:List Int))) 0 ([],[]) ?_ ade ?_ ?_]
    ·have P:FM ([]:List Nat) [] []:=⟨by simp,rfl,λj hj=>absurd hj (adS _)⟩;obtain⟨vs,e,h1,h2⟩:=AD (l:=l) (rs:=rs) (r:=a8 rs k) (a:=p) (b:=[]) (ts:=[]) (os:=[]) (d:=bq 3 (d:Int) 1) ht ⟨r1,by simp;omega,λj hj=>absurd hj (adS _)⟩ (by simp) (by simp;omega) P g g' (λj hj=>absurd hj (adS _));have hvs:vs=[]/\e=0:=by
      unfold C5 at h1;rw[aV (λj=>((j:Int),([]:List GV))) 0 [] ?_ ade ?_ ?_] at h1
      ·injection h1 with h1
       injection h1 with h1 h3
       exact⟨h1.symm,h3.symm⟩
      ·rfl
      ·intro j hj;exact absurd hj (adS _)
      ·dsimp only;rw[aC (by rw[aE];rfl)];rfl
     obtain⟨rfl,rfl⟩:=hvs;rw[h2,a9];exact⟨_,rfl,rfl⟩
    ·rfl
    ·intro j hj;exact absurd hj (adS _)
    ·dsimp only;rw[aC (by rw[aE];rfl)];rfl
  ·rw[aG,adl (show¬((len:Nat):Int)=0 by omega),join_some,aC rfl]
   by_cases hd0:d=0
   ·subst hd0;rw[aD (by rw[aG];rfl),aD (by rw[aG];rfl),a9,aC cE,ak,adp ht];refine⟨_,rfl,?_⟩;rw[show aO 0 (len:Int)=true by rw[aE];exact adf]
   ·have hD:=FW (r:=a8 rs k) (a:=p) (n:=sz*cap) r1 r2;have Tn:=lE (x:=a8 rs k) (a:=p) (n:=sz*cap) r1 r2;have sb:bq 3 (d:Int) 1=(d:Int)-1:=cD ade ade;have xJ:=(c.fr.at hk).2.1.len;have hrk:=fI ((gD c.r).2.1 k hk);have K5:∀j,j<len->(j+1)*sz<=sz*cap:=λj hj=>by
     rw[Nat.mul_comm sz cap];exact ae4 _ ade
    have Ys:∀j:Nat,(j:Int)*(sz:Int)=((j*sz:Nat):Int):=λj=>by rw[Int.natCast_mul]
    have Yo:∀j,j<len->j*sz+sz<=sz*cap:=λj hj=>by
     have:=K5 j hj;rw[aei,aeo] at this;exact this
    have P:FM (u6 (a8 rs k) p (sz*cap)) (List.replicate len (q:Int)) (nA (sz:Int) len):=by
     refine⟨by rw[adz];omega,by rw[iv,adz],λj hj=> ?_⟩;rw[adz] at hj;rw[qV _ hj,Tn,Ys];have:=Yo j hj;omega
    rw[aC (by rw[aG];exact adg),aC (by rw[aG];exact adg),sb];rw[aV (λj=>((j:Int),List.replicate j (q:Int),nA (sz:Int) j)) len (List.replicate len (q:Int),nA (sz:Int) len) ?_ ade ?_ ?_];rotate_left
    ·rfl
    ·intro j hj;have:=Yo j hj;simp only[cZ,hj,ao,ads,adA,aU (show j<9223372036854775807 by omega)];rw[aY (by rw[ay,adz];omega),aY (by rw[ay,iv];omega),eh (by rw[Ys];omega) (by rw[Ys];omega)];show some (T.LR.ok (_,_++[_],_))=_;rw[ra];rfl
    ·simp only[ba,ao];rfl
    rw[aV (λj=>((j:Int),List.replicate j (q:Int),nA (sz:Int) j)) len (List.replicate len (q:Int),nA (sz:Int) len) ?_ ade ?_ ?_];rotate_left
    ·rfl
    ·intro j hj;have:=Yo j hj;simp only[cZ,hj,ao,ads,adA,ak,ht,aU (show j<9223372036854775807 by omega)];rw[aY (by rw[ay,adz];omega),aY (by rw[ay,iv];omega),eh (by rw[Ys];omega) (by rw[Ys];omega),hq];show some (T.LR.ok (_,_++[_],_))=_;rw[ra];rfl
    ·simp only[ba,ao];rfl
    obtain⟨vs,e,h1,h2⟩:=AD (l:=l) (rs:=rs) (d:=(d:Int)-1) ht hD (by rw[Tn];omega) (by rw[Tn];omega) P g g' (λj hj=>by
     rw[adz] at hj;have e1:a8 (List.replicate len (q:Int)) j=q:=by rw[bz (by rw[adz];exact hj),List.getElem_replicate]
     have e2:(a8 (nA (sz:Int) len) j).toNat=j*sz:=by rw[qV _ hj,Ys,adx]
     rw[e1,e2];have hjj:=Yo j hj;exact IH q k (p+j*sz) _ ade uJ hk (hD.drop (by rw[Tn];omega)) (by rw[ael,Tn,mK];omega))
    rw[h1,h2,a9,a9,a9]
    by_cases he:e=0
    ·subst he;rw[aC cE];exact⟨_,rfl,rfl⟩
    ·rw[aD (bG he),adq he];exact⟨_,rfl,rfl⟩
 ·have X6:(ki rs p ((sz*cap:Nat):Int)).2=false:=by simpa using Nw
  rw[adq Nw,aD (bG (show(16:Int)≠0 by decide)),join_some,aD rfl,a9,aD (bG (show(16:Int)≠0 by decide)),aD (by rw[X6];rfl)];exact⟨_,rfl,rfl⟩
theorem wz {l:List aT} {rs:List aq} {s:Nat} (c:VC l rs s):∀(n d t k a:Nat) (b:List Nat),40*d+t<n->d<=3->lu l s t->k<rs.length->Kf (a8 rs k) a b->(SZ l t).1<=b.length->∃v,sm n (l,rs,()) b (t:Int) (d:Int)=some v/\u9 n l rs a (t:Int) (d:Int)=some v
 |0,_,_,_,_,_,hn,_,_,_,_,_=>absurd hn ade
 |n+1,d,t,k,a,b,hn,hd,hr,hk,hD,hb=>by
  have z:=cw c.k;have ht:=c.lt hr;have ho:=dq (z.2 t ht);have mK:=a7n ht;have hfk:=c.fr.at hk;have xJ:=hfk.2.1.len;have hrk:=fI ((gD c.r).2.1 k hk);have hob:=hD.okB hfk;have Tn:=hD.l;have hDh:=hD.h;have hal:a<9223372036854775808:=ade;have hIn:∀(o m:Nat),o+m<=b.length->gl (a8 rs k) (a+o) m=true:=λo m h=>by
   unfold gl;rw[adf,adf];rfl
  have wc:∀(i:Nat),8*i+8<=b.length->mO b (i:Int)=some (cX b (8*i) 8)/\ng rs (a+8*i)=some (cX b (8*i) 8):=λi hi=>by
   refine⟨VO hob hi ade,?_⟩;rw[hD.word hi];exact VZ c.fr c.r ade hk (hIn _ 8 hi)
  have ead:∀o:Nat,o<=100->cP 7 a o=a+o:=λo ho=>gS ade
  have ct:∀{ρ:Type} (a b:Unit->Option ρ),T.af true a b=a ():=λ_ _=>rfl
  have cf:∀{ρ:Type} (a b:Unit->Option ρ),T.af false a b=b ():=λ_ _=>rfl
  unfold sm u9;dsimp only;rw[ak,adp ht,ak,adp ht,ak,adp ht];rcases Xc ho with h|h|h|h|h|h|h
  ·have hs:=mK.1 h;have e1:IU rs a=some (a8 b 0):=by
    have:=V_ c.fr c.r (a:=a) (k:=k) ade hk (hIn 0 1 ade);rw[this,hD.e 0 ade];rfl
   unfold Lp;simp only[h,ak,ht,adA,ax,Nat.reduceEqDiff,ads,decide_false,ct,cf,bR,bX,Bool.or_self,join_some,aW,Nat.reduceLT,e1,a9];rw[fX _ ade,fX _ ade]
   by_cases hv:1<a8 b 0
   ·rw[adm hv,ct,join_some,aD (bG (by decide)),ct,a9];exact⟨_,rfl,rfl⟩
   ·rw[adl hv,cf,join_some,aC cE,cf,a9];exact⟨_,rfl,rfl⟩
  ·have hs:=mK.2.1 h;obtain⟨w1,w2⟩:=wc 0 ade;have w1:mO b 0=_:=w1;have w2:ng rs a=_:=w2;unfold Lp;simp only[h,ak,ht,adA,ax,Nat.reduceEqDiff,ads,decide_false,ct,cf,bR,bX,Bool.or_self,join_some,aW,Nat.reduceLT,w1,w2,a9,cE];exact⟨_,rfl,rfl⟩
  ·have hs:=mK.2.2.1 h;obtain⟨w1,w2⟩:=wc 0 ade;obtain⟨w3,w4⟩:=wc 1 ade;have w1:mO b 0=_:=w1;have w2:ng rs a=_:=w2;have w3:mO b 1=_:=w3;have w4:ng rs (a+8)=_:=w4;have hp:=mE hob (8*0);generalize cX b (8*0) 8=p at w1 w2 hp;generalize cX b (8*1) 8=m at w3 w4;unfold Lp VP;simp only[h,ak,ht,adA,ax,Nat.reduceEqDiff,ads,decide_false,ct,cf,bR,bX,Bool.or_self,join_some,aW,Nat.reduceLT,w1,w2,w3,w4,a9,ead 8 ade]
   by_cases K2:64<m
   ·rw[adm K2,ct,ct,a9,aD (bG (by decide)),a9];exact⟨_,rfl,rfl⟩
   ·rw[adl K2,cf,cf]
    by_cases h0:m=0
    ·rw[adm h0,ct,ct,a9,aC cE,a9];exact⟨_,rfl,rfl⟩
    ·rw[adl h0,cf,cf,gk ade,Ms c.fr c.r hp,Ea c.r hp,a9,a9,a9]
     by_cases Nw:(ki rs p (m:Int)).2=true
     ·obtain⟨j,hj,ej,r1,r2⟩:=HU Nw;have hjk:=fI ((gD c.r).2.1 j hj);have nq:=(c.fr.at hj).2.1.len;rw[adp Nw,aC cE,aC (by rw[Nw];rfl),ej,La nq ade ade r1 r2,a9,a9];exact⟨_,rfl,rfl⟩
     ·have X6:(ki rs p (m:Int)).2=false:=by simpa using Nw
      rw[adq Nw,aD (bG (by decide)),aD (by rw[X6];rfl),a9];exact⟨_,rfl,rfl⟩
  ·have hs:=mK.2.2.2.1 h;obtain⟨w1,w2⟩:=wc 0 ade;have w1:mO b 0=_:=w1;have w2:ng rs a=_:=w2;have hp:=mE hob (8*0);generalize cX b (8*0) 8=p at w1 w2 hp;unfold QH;simp only[h,ak,ht,adA,ax,Nat.reduceEqDiff,ads,decide_false,ct,cf,bR,bX,Bool.or_self,Bool.true_or,join_some,w1,w2,a9,mw,bh]
   by_cases h0:p=0
   ·rw[adm h0,ct,aC (c:=an true) rfl,aC cE,a9];exact⟨_,rfl,rfl⟩
   ·rw[adl h0,cf,aD (c:=an false) rfl];have e1:dH 3 1=((1:Nat):Int):=gk ade;obtain⟨v,h1,h2⟩:=Ci c hr (Or.inl h) hd (p:=p) (len:=1) (cap:=1) hp ade ade (sm n) (u9 n) (λq k' a' b' Ym hq hk' hD' hb'=>by
     have hql:=c.lt hq;have:=wz c n (d-1) q k' a' b' (by have:=z.1;omega) ade hq hk' hD' hb';rw[show((d-1:Nat):Int)=(d:Int)-1 by omega] at this;exact this)
    rw[e1,h2,a9,a9];exact⟨v,h1,rfl⟩
  ·have X5:=OM c hr (Or.inl h) hb;obtain⟨p1,p2⟩:=Da c hr (Or.inl h);have p3:=HE c hr (Or.inl h);obtain⟨vs,e,h1,h2⟩:=AD (l:=l) (rs:=rs) (d:=(d:Int)) ht hD ade ade X5.1 (sm n) (u9 n) (λj hj=>by
    obtain⟨q,e1,e2,e3,e4⟩:=X5.2 j hj;obtain⟨o1,o2⟩:=X5.1.o j hj;rw[e1];exact wz c n d q k (a+(a8 (ur l t) j).toNat) _ ade hd e3 hk (hD.drop ade) (by rw[ael];omega))
   simp only[h,ak,ht,adA,ax,Nat.reduceEqDiff,ads,decide_false,ct,cf,bR,bX,Bool.or_self,join_some,aW,Nat.reduceLT,p1,p2,p3,h1,h2,a9]
   by_cases he:e=0
   ·subst he;rw[aC cE,adp rfl];exact⟨_,rfl,rfl⟩
   ·rw[aD (bG he),adq he];exact⟨_,rfl,rfl⟩
  ·have X5:=OM c hr (Or.inr h) hb;obtain⟨p1,p2⟩:=Da c hr (Or.inr h);have p3:=HE c hr (Or.inr h);obtain⟨vs,e,h1,h2⟩:=AD (l:=l) (rs:=rs) (d:=(d:Int)) ht hD ade ade X5.1 (sm n) (u9 n) (λj hj=>by
    obtain⟨q,e1,e2,e3,e4⟩:=X5.2 j hj;obtain⟨o1,o2⟩:=X5.1.o j hj;rw[e1];exact wz c n d q k (a+(a8 (ur l t) j).toNat) _ ade hd e3 hk (hD.drop ade) (by rw[ael];omega))
   simp only[h,ak,ht,adA,ax,Nat.reduceEqDiff,ads,decide_false,ct,cf,bR,bX,Bool.or_self,join_some,aW,Nat.reduceLT,p1,p2,p3,h1,h2,a9]
   by_cases he:e=0
   ·subst he;rw[aC cE,adp rfl];exact⟨_,rfl,rfl⟩
   ·rw[aD (bG he),adq he];exact⟨_,rfl,rfl⟩
  ·have hs:=mK.2.2.2.2 h;obtain⟨w1,w2⟩:=wc 0 ade;obtain⟨w3,w4⟩:=wc 1 ade;obtain⟨w5,w6⟩:=wc 2 ade;have w1:mO b 0=_:=w1;have w2:ng rs a=_:=w2;have w3:mO b 1=_:=w3;have w4:ng rs (a+8)=_:=w4;have w5:mO b 2=_:=w5;have w6:ng rs (a+16)=_:=w6;have hp:=mE hob (8*0);generalize cX b (8*0) 8=p at w1 w2 hp;generalize cX b (8*1) 8=m at w3 w4;generalize cX b (8*2) 8=cp at w5 w6;unfold QH;simp only[h,ak,ht,adA,ax,Nat.reduceEqDiff,ads,decide_false,ct,cf,bR,bX,Bool.or_self,Bool.or_true,Bool.true_or,join_some,w1,w2,w3,w4,w5,w6,a9,ead 8 ade,ead 16 ade,aW]
   by_cases oN:cp<m\/16<cp\/(p=0/\0<cp)
   ·have b1:(decide (cp<m)||(decide (16<cp)||(decide (p=0)&&decide (0<cp))))=true:=by
     simp only[aec,adr,adk];exact oN
    have b2:(decide (16<cp)||(decide (cp<m)||(decide (p=0)&&(decide (0<m)||decide (0<cp)))))=true:=by
     simp only[aec,adr,adk];omega
    rw[b1,b2,ct,ct,aD (bG (by decide))];simp only[bT,ou,a9];exact⟨_,rfl,rfl⟩
   ·have b1:(decide (cp<m)||(decide (16<cp)||(decide (p=0)&&decide (0<cp))))=false:=by
     simp only[ad',ae6,adj];omega
    have b2:(decide (16<cp)||(decide (cp<m)||(decide (p=0)&&(decide (0<m)||decide (0<cp)))))=false:=by
     simp only[ad',ae6,adj];omega
    rw[b1,b2,cf,cf];simp only[bh,mw]
    by_cases h0:p=0
    ·rw[adm h0,ct,aC (c:=an true) rfl,aC cE,a9];exact⟨_,rfl,rfl⟩
    ·rw[adl h0,cf,aD (c:=an false) rfl];have e1:dH 3 m=(m:Int):=gk ade;have e2:dH 3 cp=(cp:Int):=gk ade;obtain⟨v,h1,h2⟩:=Ci c hr (Or.inr h) hd (p:=p) (len:=m) (cap:=cp) hp ade ade (sm n) (u9 n) (λq k' a' b' Ym hq hk' hD' hb'=>by
      have hql:=c.lt hq;have:=wz c n (d-1) q k' a' b' (by have:=z.1;omega) ade hq hk' hD' hb';rw[show((d-1:Nat):Int)=(d:Int)-1 by omega] at this;exact this)
     rw[e1,e2,h2,a9,a9];exact⟨v,h1,rfl⟩
theorem Cs (m:List Bool):∀{n u:Nat},u<n->a8 m u=true->(u:Int)∈km m n
 |n+1,u,hu,h=>by
  unfold km
  by_cases e:u=n
  ·subst e;rw[adp h];exact adC.2 (Or.inr (adF.2 rfl))
  ·have:=Cs m (n:=n) (u:=u) ade h;split
   ·exact adC.2 (Or.inl this)
   ·exact this
theorem UO {l:List aT} {rs:List aq} (hf:Fit (.sl ca) l) (hr:Fit (.sl aP) rs) (h:fO rs=0) {t:Int} (ha:xO l t=0):∃s:Nat,t=s/\VC l rs s/\s_ l t=((SZ l s).1,(SZ l s).2,0):=by
 unfold xO at ha;split at ha
 ·rename_i h0;obtain⟨hk,h1,h2⟩:=Be h0;obtain⟨s,rfl⟩:∃s:Nat,t=s:=⟨t.toNat,ade⟩;split at ha
  ·rename_i dj;obtain⟨m,hm,e⟩:=LG hf hk (s:=s) ade;have eL:Dd l (s:Int)=km m l.length:=by unfold Dd;rw[adx,A_ hm]
   rw[eL] at dj;have c:VC l rs s:=by
    refine⟨hf,hr,hk,h,ade,λu hu=> ?_⟩;have hul:u<l.length:=by
     have z:=(cw hk).2;have hs:s<l.length:=ade;clear dj h0
     induction hu with
     |here=>exact hs
     |step i k hi hk' ih=>exact AA z ih hk'
    have hmu:=Cs m hul ((hm.2 u).2 hu);obtain⟨j,hj,hje⟩:=List.getElem_of_mem hmu;have:=adE.1 dj j (adL.2 hj);rw[adk,bz hj,hje] at this;unfold iz at this;rw[adp hk,adi,adx] at this;split at this
    ·cases this
    ·unfold SZ;omega
   exact⟨s,rfl,c,(c.size lu.here).1⟩
  ·cases ha
 ·rename_i h0;exact absurd ha h0
theorem YW {l:List aT} {rs:List aq} {s:Nat} (c:VC l rs s):(SZ l s).2=1\/(SZ l s).2=8:=by
 have z:=cw c.k;have:=gn (cap:=1000000) ade l.length z.2 s (by rw[cN];exact c.b);exact this.2.2
theorem WM {rs:List aq} (h:fO rs=0):hasB rs 0 1=false:=by
 cases e:hasB rs 0 1 with
 |false=>rfl
 |true=>
  obtain⟨q1,q2⟩:=nY e;have:=fG q2;have:=fI ((gD h).2.1 _ q1);omega
theorem Xd (l:List aq):fO l≠6/\(fO l=0\/fO l=4\/fO l=8\/fO l=14):=by
 unfold fO;split
 ·simp
 ·split
  ·split<;>simp
  ·simp
theorem UA {l:List aT} {rs:List aq} (hf:Fit (.sl ca) l) (hr:Fit (.sl aP) rs) {a:Nat} (ha:a<18446744073709551616) (t d:Int) {n:Nat} (hn:200<n):∃v,C1 n l rs a t d=some v/\Tc n l rs a t d=some v:=by
 have xJ:=hr.len;unfold C1 Tc;rw[Vo hf,a9,Vb hf ade,a9];dsimp only
 by_cases h0:xO l t=0
 ·rw[aC (cQ h0),aC (cQ h0)];simp only[aE,bR,join_some]
  by_cases hd:d<0\/3<d
  ·rw[aD (by simpa using hd),aD (by simpa using hd)];exact⟨_,rfl,rfl⟩
  ·rw[aC (by simpa using hd),aC (by simpa using hd),A9 xJ ade,a9,Vc xJ,a9]
   by_cases hl:fO rs=0
   ·obtain⟨s,rfl,c,mK⟩:=UO hf hr hl h0;have Yu:=(c.size lu.here).2;have Ts:=c.z s lu.here;obtain⟨sz,hsz'⟩:∃sz:Nat,(SZ l s).1=sz:=⟨(SZ l s).1.toNat,ade⟩;obtain⟨e,rfl⟩:∃e:Nat,d=e:=⟨d.toNat,ade⟩;have e6:xW rs 0 1=(0,6):=by
     unfold xW;rw[adp hl,adi,WM hl];rfl
    have en:(af (an (bm (0,(6:Int)).2 0)) (λ_=>(some (an (bm (0,(6:Int)).2 6)))) λ_=>(some false))=some false:=by
     simp only[aA,aG,bX];rfl
    rw[e6];have en':(af (an (bm ((0:Int),(6:Int)).2 0)) (λ_=>(some (an (bm ((0:Int),(6:Int)).2 6)))) λ_=>(some false))=some false:=en;rw[en',join_some,aC rfl,sj hf,a9,mK,aC (cQ hl),E8 hf ade,a9,mK,A9 xJ ha,a9,hsz',ny,Vd hl ha ade];dsimp only;have hal:=YW c;have hau:bF 7 (SZ l s).2=1\/bF 7 (SZ l s).2=8:=by
     rcases hal with h|h
     ·left;rw[h];exact ky (n:=1) ade
     ·right;rw[h];exact ky (n:=8) ade
    have Yq:∀{ρ:Type} (k:Option ρ),T.gO (bF 7 (SZ l s).2) k=k:=λk=>by rw[T.e9,adi]
    rw[Yq,Yq,a9];unfold xW;rw[adp hl,adi];generalize aR (eV a (bF 7 (SZ l s).2)) 0=al
    by_cases hb:hasB rs a (max (sz:Int) 1)=true
    ·rw[adp hb,aC cE,join_some,hb];cases al with
     |false=>
      rw[aD (c:=an false) rfl,aD (c:=an false) rfl,join_some,aD rfl];exact⟨_,rfl,rfl⟩
     |true=>
      obtain⟨q1,q2⟩:=nY hb;have q3:=fG q2;have hrk:=fI ((gD hl).2.1 _ q1);have xJ:=(hr.at q1).2.1.len;rw[aC (c:=an true) rfl,aC (c:=an true) rfl,join_some,aC (c:=an true) rfl,ak,adp q1,E7 ((gD hl).2.1 _ q1) xJ ha q3.1 ade,a9];have hD:=FW (r:=a8 rs (nj rs a (max (sz:Int) 1))) (a:=a) (n:=sz) q3.1 ade;have Tn:=lE (x:=a8 rs (nj rs a (max (sz:Int) 1))) (a:=a) (n:=sz) q3.1 ade;have ace:=(cw c.k).1;have hcb:=c.b;obtain⟨v,h1,h2⟩:=wz c n e s _ a _ ade ade lu.here q1 hD (by rw[Tn,hsz'];omega);rw[h1,h2,a9];exact⟨_,rfl,rfl⟩
    ·have WN:hasB rs a (max (sz:Int) 1)=false:=by simpa using hb
     rw[adq hb,aD (bG (show(6:Int)≠0 by decide)),join_some,aD rfl,WN];cases al with
     |false=>rw[aD (c:=an false) rfl,join_some,aD rfl];exact⟨_,rfl,rfl⟩
     |true=>rw[aC (c:=an true) rfl,join_some,aD (c:=an false) rfl];exact⟨_,rfl,rfl⟩
   ·have e6:xW rs 0 1=(0,fO rs):=by
     unfold xW;rw[adq hl]
    have en:(af (an (bm (fO rs) 0)) (λ_=>(some (an (bm (fO rs) 6)))) λ_=>(some false))=some true:=by
     simp only[aA,aG,bX,adl hl,adl (Xd rs).1];rfl
    rw[e6];dsimp only;rw[en,join_some,aD rfl,aD (bG hl),a9];exact⟨_,rfl,rfl⟩
 ·rw[aD (bG h0),aD (bG h0),a9];exact⟨_,rfl,rfl⟩
def ju (m:aK) (f:bY) (k:Nat):Int×Int×List Int:=cR 1000000 (dK 1000000 m.1 m.1.length) f.2.2.2.1 k
theorem oc {m:aK} (hm:oD m) {f:bY} (ok:yn m.1.length f):∀k,k<=f.2.2.2.1.length->cR 1048576 (dK 1048576 m.1 m.1.length) f.2.2.2.1 k=ju m f k/\0<=(ju m f k).1/\(ju m f k).1<=264*k/\((ju m f k).2.1=1\/(ju m f k).2.1=8)
 |0,_=>by
  have e:ju m f 0=(0,1,[]):=by unfold ju cR;rfl
  have e':cR 1048576 (dK 1048576 m.1 m.1.length) f.2.2.2.1 0=(0,1,[]):=by unfold cR;rfl
  rw[e,e'];exact⟨rfl,Int.le_refl _,by simp,Or.inl rfl⟩
 |k+1,hk=>by
  obtain⟨i1,i2,i3,i4⟩:=oc hm ok k ade;have z:=cw hm.k;have hfd:=ok.d k ade;have Jh:=rE z.2 m.1.length (adw _) (a8 f.2.2.2.1 k).2.1.toNat ade;have hc:=gn (cap:=1000000) ade m.1.length z.2 (a8 f.2.2.2.1 k).2.1.toNat (by rw[cN];omega);have hz:=hm.z (a8 f.2.2.2.1 k).2.1.toNat ade;obtain⟨s1,s2,s3⟩:=hc;obtain⟨r1,r2⟩:=Jh;have e1:(a8 (dK 1048576 m.1 m.1.length) (a8 f.2.2.2.1 k).2.1.toNat).1=(a8 (dK 1000000 m.1 m.1.length) (a8 f.2.2.2.1 k).2.1.toNat).1:=by unfold RR at r1;omega
  have hs:=ok.s;unfold ju at i1 i2 i3 i4⊢;have u1:=iK i2 s3;simp only[cR,i1,e1,r2];refine⟨Prod.ext ?_ rfl,?_,?_,?_⟩
  ·dsimp only;omega
  ·omega
  ·omega
  ·omega
def nB (m:aK) (f:bY):List Int:=(ju m f f.2.2.2.1.length).2.2
def Pf (m:aK) (f:bY):Int:=mQ (mQ (ju m f f.2.2.2.1.length).1 (ju m f f.2.2.2.1.length).2.1) 8
theorem wK (m:aK) (f:bY):(nB m f).length=f.2.2.2.1.length:=fQ ..
theorem Bn {m:aK} (hm:oD m) {f:bY} (ok:yn m.1.length f):0<=Pf m f/\Pf m f<=4300/\Pf m f %8=0:=by
 obtain⟨i1,i2,i3,i4⟩:=oc hm ok _ (adw _);have hs:=ok.s;have u1:=iK i2 i4;unfold Pf;have u2:=iK (show 0<=mQ (ju m f f.2.2.2.1.length).1 (ju m f f.2.2.2.1.length).2.1 by omega) (Or.inr rfl:(8:Int)=1\/(8:Int)=8);refine⟨ade,ade,?_⟩;generalize mQ (ju m f f.2.2.2.1.length).1 (ju m f f.2.2.2.1.length).2.1=x;unfold mQ;omega
theorem AK {m:aK} (hm:oD m) {f:bY} (ok:yn m.1.length f) {k:Nat} (hk:k<f.2.2.2.1.length):0<=a8 (nB m f) k/\a8 (nB m f) k<=4300:=by
 obtain⟨i1,i2,i3,i4⟩:=oc hm ok k ade;have z:=cw hm.k;have hfd:=ok.d k ade;have hc:=gn (cap:=1000000) ade m.1.length z.2 (a8 f.2.2.2.1 k).2.1.toNat (by rw[cN];omega);unfold nB ju;rw[wu hk];unfold ju at i2 i3;have:=iK i2 hc.2.2;have hs:=ok.s;omega
theorem Vm {m:aK} (hf:Fit bJ m) (hm:oD m) {f:bY} (ok:yn m.1.length f):Ed m.1 f.2.2.2.1=some (nB m f,mQ (ju m f f.2.2.2.1.length).1 (ju m f f.2.2.2.1.length).2.1,(ju m f f.2.2.2.1.length).2.1,0):=by
 have z:=cw hm.k;have jq:=cN 1048576 m.1 m.1.length;have hc:=gn (cap:=1048576) ade m.1.length z.2;have Jh:=rE z.2 m.1.length (adw _);have hn:=ok.s;have oO:=ok.d;obtain⟨i1,-,-,-⟩:=oc hm ok _ (adw _);unfold Ed nB;rw[vF hf.1,a9,aC (cQ hm.k),aC (by rw[aE];exact adg),Ei z.1 z.2,a9];have el:((dK 1048576 m.1 m.1.length).map ext).length=m.1.length:=by rw[ae0,jq]
 have hfo:Hz (dK 1048576 m.1 m.1.length).length f.2.2.2.1:=λk hk=>by rw[jq];exact oO k hk
 rw[bA f.2.2.2.1.length (λ_=>true) ([],0,0,2) () ade ?_ ?_]
 ·rw[adp (by simp)];rw[bA f.2.2.2.1.length (λ_=>true) ([],0,0,16) () ade ?_ ?_]
  ·rw[adp (by simp),Ej hc ade hfo (by rw[el,jq];exact adw _) (λj hj=>eC _ hj),a9,i1]
  ·intro k hk';obtain⟨f1,f2⟩:=oO k hk';have e1:a8 ((dK 1048576 m.1 m.1.length).map ext) (a8 f.2.2.2.1 k).2.1.toNat=ext (a8 (dK 1048576 m.1 m.1.length) (a8 f.2.2.2.1 k).2.1.toNat):=eC _ ade;have hb:¬256<(a8 (dK 1048576 m.1 m.1.length) (a8 f.2.2.2.1 k).2.1.toNat).1:=by
    obtain⟨r1,r2⟩:=Jh (a8 f.2.2.2.1 k).2.1.toNat ade;have h3:=hm.z (a8 f.2.2.2.1 k).2.1.toNat ade;unfold RR at r1;omega
   simp only[cZ,hk',ao,ads,adA,ak];rw[bE f1 ade,e1,aE,adq (by rw[adk];exact hb),aU ade];rfl
  ·rw[ba];rfl
 ·intro k hk';obtain⟨f1,f2⟩:=oO k hk';have:(af (aO (a8 f.2.2.2.1 k).2.1 0) (λ_=>(some true)) λ_=>(some (cB m.1.length (a8 f.2.2.2.1 k).2.1)))=some false:=by
   rw[aC (by rw[aE];exact adg),aN,adg]
  simp only[cZ,hk',ads,ak,adA];rw[aD rfl,this,join_some,aC rfl,aU ade];rfl
 ·rw[ba];rfl
theorem Ti {m:aK} (hf:Fit bJ m) (hm:oD m) {i:Nat} (hi:i<m.2.2.1.length):ZW m (i:Int)=some (nB m (a8 m.2.2.1 i),Pf m (a8 m.2.2.1 i)):=by
 have ok:=hm.g i hi;obtain⟨i1,i2,i3,i4⟩:=oc hm ok _ (adw _);have u1:=iK i2 i4;have hs:=ok.s;unfold ZW;rw[ak,adp hi,Vm hf hm ok,a9];dsimp only;rw[Lf ade,a9];rfl
def pb (o:List Int):Nat->List Int
 |0=>[]
 |k+1=>pb o k++[24+a8 o k]
theorem jM (o:List Int):∀k,(pb o k).length=k
 |0=>rfl
 |k+1=>by rw[pb,ado,jM o k];rfl
theorem CU (o:List Int):∀{k j:Nat},j<k->a8 (pb o k) j=24+a8 o j
 |k+1,j,h=>by
  by_cases hj:j<k
  ·rw[pb,dI (by rw[jM];exact hj),CU o hj]
  ·have:j=k:=by omega
   subst this;rw[pb,gE (jM o j)]
theorem Tb {m:aK} (hm:oD m) {i:Nat} (hi:i<m.2.2.1.length):ZL m (i:Int)=some (pb (nB m (a8 m.2.2.1 i)) (a8 m.2.2.1 i).2.2.2.1.length,24+Pf m (a8 m.2.2.1 i)):=by
 have ok:=hm.g i hi;have z:=cw hm.k;have hc:=gn (cap:=1000000) ade m.1.length z.2;have jq:=cN 1000000 m.1 m.1.length;have X4:=wK m (a8 m.2.2.1 i);obtain⟨i1,i2,i3,i4⟩:=oc hm ok _ (adw _);have u1:=iK i2 i4;have hs:=ok.s;have eR:=λ{k} hk=>AK hm ok (k:=k) hk
 have hz:=Bn hm ok;unfold ZL;rw[ak,adp hi];unfold ID;rw[py z.1 z.2,a9,Eg hc ade (λk hk=>by have:=ok.d k hk;omega),a9,a9];have eS:(Az 1000000 (dK 1000000 m.1 m.1.length) (a8 m.2.2.1 i).2.2.2.1).1=mQ (ju m (a8 m.2.2.1 i) (a8 m.2.2.1 i).2.2.2.1.length).1 (ju m (a8 m.2.2.1 i) (a8 m.2.2.1 i).2.2.2.1.length).2.1:=by
  unfold Az;unfold ju at i2 i3 i4 u1⊢;dsimp only;omega
 have eO:(cR 1000000 (dK 1000000 m.1 m.1.length) (a8 m.2.2.1 i).2.2.2.1 (a8 m.2.2.1 i).2.2.2.1.length).2.2=nB m (a8 m.2.2.1 i):=rfl;rw[eO,eS];dsimp only;generalize a8 m.2.2.1 i=f at*;rw[T.d4,adh,adx];rw[aV (λk=>((k:Int),pb (nB m f) k++List.replicate (f.2.2.2.1.length-k) 0)) f.2.2.2.1.length (pb (nB m f) f.2.2.2.1.length) ?_ ade ?_ ?_]
 ·rw[KX ade,a9];have e2:mQ (mQ (ju m f f.2.2.2.1.length).1 (ju m f f.2.2.2.1.length).2.1) 8=Pf m f:=rfl;rw[e2,c8 ade ade]
 ·rw[X4];rfl
 ·intro k hk;have h1:=eR hk;have BE:k<(pb (nB m f) k++List.replicate (f.2.2.2.1.length-k) 0).length:=by rw[ado,adz,jM];omega
  rw[X4];simp only[cZ,hk,BE,ao,ads,adA,ak,mz (jM (nB m f) k) hk,aU (show k<9223372036854775807 by omega)];rw[c8 ade ade];rfl
 ·simp only[X4,ba,ao,aep,List.replicate_zero,adP];rfl
def cj (m:aK) (pc:Nat):Int:=if 4096<nO (a8 m.2.2.1 (pc/256-1)).2.2.2.2.2.1 ((pc %256:Nat):Int) (a8 m.2.2.1 (pc/256-1)).2.2.2.2.2.1.length then 4097 else 24+Pf m (a8 m.2.2.1 (pc/256-1))+(nO (a8 m.2.2.1 (pc/256-1)).2.2.2.2.2.1 ((pc %256:Nat):Int) (a8 m.2.2.1 (pc/256-1)).2.2.2.2.2.1.length:Int)
theorem Hp {m:aK} {pc:Nat} (h:p9 m pc=false):pc/256-1<m.2.2.1.length/\((pc %256:Nat):Int)<((a8 m.2.2.1 (pc/256-1)).2.2.2.2.1.length:Int)/\1<=pc/256:=by
 unfold p9 at h;simp only[ad',adj] at h;omega
theorem qB {m:aK} (hm:oD m) {pc:Nat} (h:p9 m pc=false):24<=cj m pc/\cj m pc<=100000:=by
 have hi:=(Hp h).1;have:=Bn hm (hm.g _ hi);unfold cj;split<;>omega
theorem T9 {m:aK} (hf:Fit bJ m) (h0:iG m=0) {pc:Nat} (hp:pc<18446744073709551616):Zu m pc=some (if p9 m pc=true then(0,6) else if 4096<cj m pc then(0,16) else(cj m pc,0)):=by
 have hm:=j7 h0;unfold Zu;rw[MX hf hp,adp h0,a9]
 by_cases hn:p9 m pc=true
 ·rw[adp hn,adp hn,aD (bG (by decide))]
 ·have uh:p9 m pc=false:=by simpa using hn
  obtain⟨b1,b2,b3⟩:=Hp uh;have ok:=hm.g _ b1;have hz:=Bn hm ok;have h6:=(hf.2.2.1.at b1).2.2.2.2.2.1;have hv:=(N1 (dN h6) ok.t.1 (p:=((pc %256:Nat):Int)) ⟨ade,b2⟩).1;rw[adq hn,adq hn,aC cE,Ti hf hm b1,a9,ak,adp b1,ak,adp b1];dsimp only;rw[hv,a9];dsimp only;unfold cj;generalize nO (a8 m.2.2.1 (pc/256-1)).2.2.2.2.2.1 ((pc %256:Nat):Int) (a8 m.2.2.1 (pc/256-1)).2.2.2.2.2.1.length=v
  by_cases hv:4096<v
  ·rw[adp hv,adh,aD (by rw[aW];exact adm hv),join_some,aD rfl]
  ·rw[adq hv,aC (by rw[aW];exact adl hv),gk ade,show ab 3 24 (Pf m (a8 m.2.2.1 (pc/256-1)))=24+Pf m (a8 m.2.2.1 (pc/256-1)) from c8 ade ade,c8 ade ade,join_some,aE]
   by_cases hs:4096<24+Pf m (a8 m.2.2.1 (pc/256-1))+(v:Int)
   ·rw[adp hs,aD (adm hs)]
   ·rw[adq hs,aC (adl hs)]
theorem ZI {m:aK} (hf:Fit bJ m) (h0:iG m=0) {pc:Nat} (hn:p9 m pc=false):f71 m ((pc/256-1:Nat):Int) ((pc %256:Nat):Int)=some (cj m pc):=by
 have hm:=j7 h0;obtain⟨b1,b2,b3⟩:=Hp hn;have ok:=hm.g _ b1;have hz:=Bn hm ok;have h6:=(hf.2.2.1.at b1).2.2.2.2.2.1;have hv:=(N1 (dN h6) ok.t.1 (p:=((pc %256:Nat):Int)) ⟨ade,b2⟩).2;unfold f71 cj;rw[Tb hm b1,a9,ak,adp b1,hv,a9];dsimp only;generalize nO (a8 m.2.2.1 (pc/256-1)).2.2.2.2.2.1 ((pc %256:Nat):Int) (a8 m.2.2.1 (pc/256-1)).2.2.2.2.2.1.length=v
 by_cases hv:4096<v
 ·rw[adp hv,aD (by rw[aW];exact adm hv)]
 ·rw[adq hv,aC (by rw[aW];exact adl hv),gk ade,c8 ade ade]
def Fa (md df:Nat):Bool:=decide (md<=3)&&(decide (df≠0)==decide (2<=md))
theorem U_ (md df:Nat):Qj md df=some (Fa md df):=by
 unfold Qj Fa;simp only[aZ,aA,ax,bg,bX,join_some];refine congrArg some ?_
 by_cases h:df=0<;>simp[h]
theorem V9 (md df:Nat):Qp md df=some (Fa md df):=by
 unfold Qp Fa;simp only[ax,aW,bX,bR]
 by_cases h0:md=0
 ·subst h0
  by_cases hd:df=0
  ·subst hd;rfl
  ·simp[hd,ao,join_some]
 ·by_cases h1:md=1
  ·subst h1
   by_cases hd:df=0
   ·subst hd;rfl
   ·simp[hd,ao,join_some]
  ·by_cases h2:md=2
   ·subst h2
    by_cases hd:df=0
    ·subst hd;rfl
    ·simp[ao,join_some,hd];omega
   ·by_cases h3:md=3
    ·subst h3
     by_cases hd:df=0
     ·subst hd;rfl
     ·simp[ao,join_some,hd];omega
    ·simp[h0,h1,h2,h3,ao,join_some];omega
theorem pD {x:aq} (h:rV x=true):ko x=0/\x.1<=268435456/\16777216<=x.1/\x.1 %16777216=0/\x.2.1.length<=4096/\x.2.1.length %8=0:=by
 unfold rV Jp at h;simp only[adr,adk] at h;have:ko x=0:=by
  unfold ko OZ;rw[adp];simp only[adr,adk];omega
 exact⟨this,ade,ade,ade,ade,ade⟩
def jz (x:aq) (a:Nat):Nat×(Nat×(Nat×Int)):=
 if rV x=true then(if gl x a 24=true/\a %8=0 then(if Fa (cX x.2.1 (a-x.1+8) 8) (cX x.2.1 (a-x.1+16) 8)=true then(cX x.2.1 (a-x.1) 8,cX x.2.1 (a-x.1+8) 8,cX x.2.1 (a-x.1+16) 8,0) else(0,0,0,12)) else(0,0,0,16)) else(0,0,0,8)
theorem Ta {x:aq} (hf:Fit aP x) {a:Nat} (ha:a<18446744073709551616):Zv x a=some (jz x a):=by
 have hl:=hf.2.1.len;unfold Zv jz;rw[T8 ade,a9]
 by_cases hb:rV x=true
 ·obtain⟨h0,h1,h2,h3,h4,h5⟩:=pD hb;have DM:∀{ρ:Type} (k:Option ρ),T.gO 8 k=k:=λk=>by rw[T.e9,adq (by decide)]
  rw[adp hb,aC cE,Cf ade ha,adp h0,adq (by decide),a9,wh h0 (by decide),DM,T.dR,aA,ax,aA,bR,join_some,adp hb]
  by_cases hi:gl x a 24=true/\a %8=0
  ·obtain⟨i1,i2⟩:=fG hi.1;have e1:=lV;have lo:∀o:Nat,o+8<=24->(N2 x (a+o) 8)=some (cX x.2.1 (a-x.1+o) 8,0):=λo ho=>by
    rw[Tk hf ade];unfold RW;have fe:gl x (a+o) 8=true:=by
     unfold gl;rw[adf,adf];rfl
    rw[adp h0,adq (by decide),adp fe,show a+o-x.1=a-x.1+o by omega];rfl
   have l0:N2 x a 8=some (cX x.2.1 (a-x.1) 8,0):=lo 0 ade;rw[hi.1,adm hi.2,aC (c:= !true|| !true) rfl,l0,gS ade,gS ade,lo 8 ade,lo 16 ade,a9,a9,a9,adp ⟨rfl,hi.2⟩];dsimp only;rw[U_,a9];cases Fa (cX x.2.1 (a-x.1+8) 8) (cX x.2.1 (a-x.1+16) 8)<;>rfl
  ·rw[adq hi,aD];rw[aec,adn,adn,adj]
   by_cases h:gl x a 24=true
   ·exact Or.inr λh8=>hi ⟨h,h8⟩
   ·exact Or.inl (by simpa using h)
 ·rw[adq hb,aD (bG (by decide)),adq hb]
theorem ZJ {x:aq} (hf:Fit aP x) {a:Nat} (ha:a<18446744073709551616):f72 x a=some (jz x a):=by
 have hl:=hf.2.1.len;unfold f72 jz;rw[T3 ade,a9]
 by_cases hb:rV x=true
 ·obtain⟨h0,h1,h2,h3,h4,h5⟩:=pD hb;have DM:∀{ρ:Type} (k:Option ρ),T.gO 8 k=k:=λk=>by rw[T.e9,adq (by decide)]
  rw[hb,aC (c:=an true) rfl,DM,T.dR,aA,ax,nc h0 ha (by decide),a9,aA,bR,join_some,adp rfl]
  by_cases hi:gl x a 24=true/\a %8=0
  ·obtain⟨i1,i2⟩:=fG hi.1;have lo:∀o:Nat,o+8<=24->(jm x (a+o) 8)=some (cX x.2.1 (a-x.1+o) 8):=λo ho=>by
    have:=Aa hf (a:=a+o) (k:=8) ade ade ade ade ade;rw[show a+o-x.1=a-x.1+o by omega] at this;exact this
   have l0:jm x a 8=some (cX x.2.1 (a-x.1) 8):=lo 0 ade;rw[hi.1,adm hi.2,aC (c:= !true|| !true) rfl,l0,gS ade,gS ade,lo 8 ade,lo 16 ade,a9,a9,a9,adp ⟨rfl,hi.2⟩,V9,a9];cases Fa (cX x.2.1 (a-x.1+8) 8) (cX x.2.1 (a-x.1+16) 8)<;>rfl
  ·rw[adq hi,aD];rw[aec,adn,adn,adj]
   by_cases h:gl x a 24=true
   ·exact Or.inl λh8=>hi ⟨h,h8⟩
   ·exact Or.inr (by simpa using h)
 ·have WN:rV x=false:=by simpa using hb
  rw[WN,aD (c:=an false) rfl,adq (by decide)]
theorem U' {m:aK} (hf:Fit bJ m) {i s:Int}:Qk m i s=some (if iG m=0 then(if i<0\/(m.2.2.1.length:Int)<=i\/s<0\/((a8 m.2.2.1 i.toNat).2.2.2.1.length:Int)<=s then(0,0,2) else(24+a8 (nB m (a8 m.2.2.1 i.toNat)) s.toNat,(a8 (a8 m.2.2.1 i.toNat).2.2.2.1 s.toNat).2.1,0)) else(0,0,iG m)):=by
 unfold Qk;rw[GU hf,a9]
 by_cases h0:iG m=0
 ·have hm:=j7 h0;rw[aC (cQ h0),adp h0];have h3:=hf.2.2.1.len
  by_cases hb:i<0\/(m.2.2.1.length:Int)<=i
  ·have e1:(af (aO i 0) (λ_=>(some true)) λ_=>(af (cB m.2.2.1.length i) (λ_=>(some true)) λ_=>(af (aO s 0) (λ_=>(some true)) λ_=>(ai m.2.2.1.length i (λv1=>(some (cB ((a8 m.2.2.1 v1).2.2.2.1.length:Int) s)))))))=some true:=by
    by_cases h1:i<0
    ·rw[aD (by rw[aE];exact adm h1)]
    ·rw[aC (by rw[aE];exact adl h1),aD (by rw[aN];exact adf)]
   rw[e1,join_some,aD rfl,adh]
  ·obtain⟨k,rfl⟩:∃k:Nat,i=k:=⟨i.toNat,ade⟩;have hk:k<m.2.2.1.length:=ade;have ok:=hm.g k hk;rw[aC (by rw[aE];exact adg),aC (by rw[aN];exact adg),ak,adp hk,aE,aN,bR,join_some,adx]
   by_cases hs:s<0\/((a8 m.2.2.1 k).2.2.2.1.length:Int)<=s
   ·rw[aD (by simpa using hs),adh]
   ·obtain⟨q,rfl⟩:∃q:Nat,s=q:=⟨s.toNat,ade⟩;have hq:q<(a8 m.2.2.1 k).2.2.2.1.length:=ade;have eR:=AK hm ok hq;rw[aC (by simpa using hs),adi,Ti hf hm hk,a9,ak,adp (by rw[wK];exact hq),ak,adp hk,ak,adp hq,adx];dsimp only;rw[c8 ade ade]
 ·rw[aD (bG h0),adq h0]
end Go.Proofs.YtbjcjppphoppfaaGreat.M
