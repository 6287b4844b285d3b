import Derived.Test.YtbjcjppphoppfaaGreatEAZ
set_option linter.all false
namespace Go.Proofs.YtbjcjppphoppfaaGreat.M
open Go.Proofs.YtbjcjppphoppfaaGreat.T hiding a8 ae av aH aw bd bM cC
section graph
variable (n:Nat) (d:Nat->List Int)
inductive lq (s:Nat):Nat->Prop
 |here:lq s s
 |step (i k:Nat):lq s i->k<(d i).length->lq s (a8 (d i) k).toNat
def DH:Prop:=∀i,i<n->∀k,k<(d i).length->0<=a8 (d i) k/\a8 (d i) k<n
def YM (m:List Bool):Prop:=∀i,i<n->a8 m i=true->∀k,k<(d i).length->a8 m (a8 (d i) k).toNat=true
def Ig (s:Nat) (m:List Bool):Prop:=m.length=n/\∀j,a8 m j=true↔lq d s j
end graph
theorem UC {n:Nat} {d:Nat->List Int} {s:Nat} {m m':List Bool} (h:Ig n d s m) (h':Ig n d s m'):m=m':=by
 apply List.ext_getElem (by rw[h.1,h'.1]);intro i h1 h2;rw[<-bz h1,<-bz h2,ae8,h.2,h'.2]
theorem mb {n:Nat} {d:Nat->List Int} (hd:DH n d) {s:Nat} (hs:s<n) {j:Nat} (h:lq d s j):j<n:=by
 induction h with
 |here=>exact hs
 |step i k _ hk ih=>have:=hd i ih k hk;omega
theorem A2 {n:Nat} {d:Nat->List Int} (hd:DH n d) {s:Nat} (hs:s<n) {m:List Bool} (hm:m.length=n) (h0:a8 m s=true) (h1:∀x,a8 m x=true->lq d s x) (hc:YM n d m):Ig n d s m:=by
 refine⟨hm,λj=>⟨h1 j,λhr=> ?_⟩⟩
 induction hr with
 |here=>exact h0
 |step i k hi hk ih=>exact hc i (mb hd hs hi) ih k hk
theorem P3 {m:List Bool} {k:Nat} (h:a8 m k=true):ae m k true=m:=by
 apply List.ext_getElem (by rw[cM]);intro i h1 h2;rw[<-bz h1,<-bz h2]
 by_cases hk:k<m.length
 ·rw[dd hk];split
  ·rename_i e;subst e;exact h.symm
  ·rfl
 ·rw[dJ ade] at h;cases h
theorem wD {n s:Nat} (hs:s<n):(ae (bd n false) s true).length=n/\(∀x,a8 (ae (bd n false) s true) x=true↔x=s)/\1<=oH (ae (bd n false) s true):=by
 have e0:(bd n false).length=n:=adz;have eR:∀x,a8 (ae (bd n false) s true) x=true↔x=s:=by
  intro x;rw[dd (by rw[e0];exact hs)];split
  ·rename_i e;exact⟨λ_=>e.symm,λ_=>rfl⟩
  ·rename_i e;refine⟨λhx=> ?_,λhx=>absurd hx.symm e⟩
   by_cases hx':x<n
   ·rw[bz (by rw[e0];exact hx')] at hx;simp[bd] at hx
   ·rw[dJ (by rw[e0];omega)] at hx;cases hx
 refine⟨by rw[cM,e0],eR,?_⟩;have:=mZ (List.replicate n false) (ae (bd n false) s true) (by rw[cM,e0];simp) (λj hj=> ?_) s ?_ ((eR s).2 rfl)
 ·omega
 ·by_cases hj':j<n
  ·rw[bz (by simpa using hj')] at hj;simp at hj
  ·rw[dJ (by simp;omega)] at hj;cases hj
 ·rw[bz (by simp;omega)];simp
def cU (l:List aX) (i:Nat):List Int:=qm (a8 l i) i
theorem VD {l:List aX} (hf:Fit (.sl cK) l) (h0:je l=0):∃m,Ig l.length (cU l) 0 m/\IM l=some (ae m (l.length-1) true,0):=by
 have ok:=jf h0;obtain⟨n0,n1⟩:=ok.n;have fe:DH l.length (cU l):=λi hi k hk=>ok.b i hi k hk
 have hb:∀{k:Nat->Option (List Bool×Int)},T.b_ 1073741824 l.length k=k l.length:=by
  intro k;rw[T.d4,adh,adx]
 have e0:(bd l.length false).length=l.length:=adz;obtain⟨qc,eR,nZ⟩:=wD n0;unfold IM;rw[Ag ade,h0,a9,aC cE,hb,fX _ (by rw[e0];exact n0),fX _ (by rw[e0];exact n0)];generalize ae (bd l.length false) 0 true=m0 at qc eR nZ⊢
 suffices H:∃r,(∃m,Ig l.length (cU l) 0 m/\r=(ae m (l.length-1) true,0))/\(loop ((List Bool)×(List Int)) (List Bool) ((List Bool)×(List Int)) (λv4=>(af (aO 0 v4.2.length) (λ_=>(ai v4.2.length (bq 3 v4.2.length 1) (λv5=>(b_ v4.2.length (bq 3 v4.2.length 1) (λv6=>(bind (pz l (a8 v4.2 v5)) (λv7=>(loop (Int×((List Bool)×(List Int))) ((List Bool)×(List Int)) ((List Bool)×(List Int)) (λv8=>(af (aO v8.1 v7.length) (λ_=>(ai v7.length v8.1 (λv9=>(ai v8.2.1.length (a8 v7 v9) (λv10=>(ai v8.2.1.length (a8 v7 v9) (λv11=>(af (an (a8 v8.2.1 v10)) (λ_=>(bj (aJ v8.2.2.length 1) (bh ((ab 3 v8.1 1),(ae v8.2.1 v11 true),(aw v8.2.2 [(a8 v7 v9)]))))) λ_=>(bh ((ab 3 v8.1 1),(ae v8.2.1 v11 true),v8.2.2)))))))))) λ_=>(lex (v8.2.1,v8.2.2)))) (0,v4.1,(av v6 v4.2)) (λv8=>(bh (v8.1,v8.2))) (λv8=>none))))))))) λ_=>(lex v4.1))) (m0,[0]) (λv4=>(ai v4.length (bq 3 v4.length 1) (λv5=>(some ((ae v4 v5 true),(0:Int)))))) (λv4=>none))=some r by
  obtain⟨r,⟨m,h1,rfl⟩,h3⟩:=H;exact⟨m,h1,h3⟩
 refine qT (P:=Ig l.length (cU l) 0) _ (λm hm=>⟨_,⟨m,hm,rfl⟩,?_⟩) (oe
  (λ(p:List Bool×List Int)=>p.1.length=l.length/\a8 p.1 0=true/\(∀x,a8 p.1 x=true->lq (cU l) 0 x)/\(∀x:Int,x∈p.2->0<=x/\x<l.length/\a8 p.1 x.toNat=true)/\(∀i,i<l.length->a8 p.1 i=true->(i:Int)∈p.2\/∀k,k<(cU l i).length->a8 p.1 (a8 (cU l i) k).toNat=true)/\2*(l.length-oH p.1)+p.2.length<=2*l.length)
  (Ig l.length (cU l) 0) (λp=>2*(l.length-oH p.1)+p.2.length) ?_ ?_ ?_)
 ·rw[hm.1,show bq 3 l.length 1=((l.length-1:Nat):Int) by rw[cD ade ade];omega,ak,adh]
 ·refine⟨qc,(eR 0).2 rfl,λx hx=>by rw[(eR x).1 hx];exact lq.here,λx hx=> ?_,λi hi lZ=> ?_,?_⟩
  ·rw[adF] at hx;subst hx;exact⟨ade,ade,(eR _).2 rfl⟩
  ·left;rw[(eR i).1 lZ];exact adF.2 rfl
  ·have:=kR m0;simp only[adJ];omega
 ·have:=kR m0;simp only[adJ];omega
 ·rintro⟨m,st⟩ ⟨I1,I2,I3,I4,I5,I6⟩;dsimp only at I1 I2 I3 I4 I5 I6⊢
  by_cases kY:0<st.length
  ·left;obtain⟨q,hq⟩:∃q,st.length=q+1:=⟨st.length-1,ade⟩;have kD:a8 st q∈st:=by rw[bz ade];exact adT _
   obtain⟨a1,a2,a3⟩:=I4 _ kD;obtain⟨p,hp⟩:∃p:Nat,a8 st q=p:=⟨(a8 st q).toNat,ade⟩;rw[hp] at a1 a2 a3 kD;rw[adx] at a3;have sb:bq 3 st.length 1=(q:Int):=by rw[cD ade ade];omega
   have hin':=fe p ade;have n_:(cU l p).length<=2:=lB _ _;have qf:(av q st).length=q:=by show(st.take q).length=q;rw[adY];omega
   have ef:pz l (p:Int)=some (cU l p):=EE ade ade (fp (hf.at ade)).2.1;rw[aD (by rw[aE];exact adf),sb,ak,adh,T.d4,adh,hp,ef,a9,adx];obtain⟨s1,s2,s3,s4,s5,s6,s7⟩:=xj (m:=m) (st:=av q st) I1 hin' _ (adw _);refine⟨kL m (av q st) (cU l p) (cU l p).length,?_,⟨s1,s2 _ I2,λx hx=> ?_,λx hx=> ?_,λi hi lZ=> ?_,ade⟩,ade⟩
   ·generalize cU l p=d at hin' n_ s1 s2 s3 s4 s5 s6 s7⊢;rw[aV (λk=>((k:Int),(kL m (av q st) d k).1,(kL m (av q st) d k).2)) d.length (kL m (av q st) d d.length) ?_ ade ?_ ?_]
    ·rfl
    ·rfl
    ·intro k hk;obtain⟨b1,b2⟩:=hin' k hk;obtain⟨t1,t2,t3,t4,t5,t6,t7⟩:=xj (m:=m) (st:=av q st) I1 hin' k ade;simp only[cZ,hk,ao,ads,adA,ak];rw[bE b1 ade,bE b1 ade,aU ade,aY (by rw[ay];omega)];rw[show kL m (av q st) d (k+1)=if a8 (kL m (av q st) d k).1 (a8 d k).toNat=true then kL m (av q st) d k else(ae (kL m (av q st) d k).1 (a8 d k).toNat true,(kL m (av q st) d k).2++[a8 d k]) from rfl]
     by_cases hc:a8 (kL m (av q st) d k).1 (a8 d k).toNat=true
     ·rw[adp hc,adq (by rw[hc];decide),P3 hc];rfl
     ·have hf:a8 (kL m (av q st) d k).1 (a8 d k).toNat=false:=by simpa using hc
      rw[adq hc,adp (by rw[hf];rfl)];rfl
    ·simp only[ba];rfl
   ·rcases s3 x hx with hx|⟨⟨k,hk,rfl⟩,_⟩
    ·exact I3 x hx
    ·exact lq.step _ k (I3 _ a3) hk
   ·rcases s5 x hx with hx|hx
    ·have:=I4 x (List.mem_of_mem_take hx);exact⟨this.1,this.2.1,s2 _ this.2.2⟩
    ·exact hx
   ·rcases s3 i lZ with lZ|⟨_,fe⟩
    ·rcases I5 i hi lZ with j6|j6
     ·rcases oy hq j6 with h3|h3
      ·exact Or.inl (s6 _ h3)
      ·right;have e:i=p:=ade;intro k hk;subst e;exact s4 k hk
     ·exact Or.inr λk hk=>s2 _ (j6 k hk)
    ·exact Or.inl fe
  ·right;have ER:st=[]:=aeh ade;subst ER;refine⟨m,?_,A2 fe n0 I1 I2 I3 λi hi lZ=> ?_⟩
   ·rw[aC (by rw[aE];exact adl (by simp))];rfl
   ·rcases I5 i hi lZ with h1|h1
    ·cases h1
    ·exact h1
def pF (m:List Bool) (c:Bool) (d:List Int):Nat->Bool×List Bool
 |0=>(c,m)
 |k+1=>if a8 (pF m c d k).2 (a8 d k).toNat=true then pF m c d k else(true,ae (pF m c d k).2 (a8 d k).toNat true)
theorem OA {m:List Bool} {c:Bool} {d:List Int} {n:Nat} (hm:m.length=n) (hd:∀k,k<d.length->0<=a8 d k/\a8 d k<n):∀k,k<=d.length->
 (pF m c d k).2.length=n/\(∀j,a8 m j=true->a8 (pF m c d k).2 j=true)/\(∀j,a8 (pF m c d k).2 j=true->a8 m j=true\/∃i,i<k/\(a8 d i).toNat=j)/\(∀i,i<k->a8 (pF m c d k).2 (a8 d i).toNat=true)/\
 (((pF m c d k).1=c/\(pF m c d k).2=m)\/((pF m c d k).1=true/\oH m<oH (pF m c d k).2))
 |0,_=>⟨hm,λ_ h=>h,λ_ h=>Or.inl h,λi hi=>absurd hi (adS _),Or.inl ⟨rfl,rfl⟩⟩
 |k+1,hk=>by
  obtain⟨i1,i2,i3,i4,i5⟩:=OA (c:=c) hm hd k ade;obtain⟨d1,d2⟩:=hd k ade;unfold pF
  by_cases hc:a8 (pF m c d k).2 (a8 d k).toNat=true
  ·rw[adp hc];refine⟨i1,i2,λj hj=> ?_,λi hi=> ?_,i5⟩
   ·rcases i3 j hj with h|⟨i,h1,h2⟩
    ·exact Or.inl h
    ·exact Or.inr ⟨i,ade,h2⟩
   ·by_cases e:i=k
    ·subst e;exact hc
    ·exact i4 i ade
  ·rw[adq hc];have hs:=λj=>dd (l:=(pF m c d k).2) (i:=(a8 d k).toNat) (j:=j) (x:=true) ade
   have mono:∀j,a8 (pF m c d k).2 j=true->a8 (ae (pF m c d k).2 (a8 d k).toNat true) j=true:=λj hj=>by
    rw[hs];split
    ·rfl
    ·exact hj
   dsimp only;refine⟨by rw[cM];exact i1,λj hj=>mono j (i2 j hj),λj hj=> ?_,λi hi=> ?_,Or.inr ⟨rfl,?_⟩⟩
   ·rw[hs] at hj;split at hj
    ·rename_i e;exact Or.inr ⟨k,ade,e⟩
    ·rcases i3 j hj with h|⟨i,h1,h2⟩
     ·exact Or.inl h
     ·exact Or.inr ⟨i,ade,h2⟩
   ·by_cases e:i=k
    ·subst e;rw[hs,adp rfl]
    ·exact mono _ (i4 i ade)
   ·have c1:=mZ (pF m c d k).2 (ae (pF m c d k).2 (a8 d k).toNat true) (by rw[cM]) mono _ (by simpa using hc) (by rw[hs,adp rfl]);have c2:=lC m (pF m c d k).2 (by rw[hm,i1]) i2;omega
def qF (d:Nat->List Int) (m:List Bool):Nat->Bool×List Bool
 |0=>(false,m)
 |i+1=>if a8 (qF d m i).2 i=true then pF (qF d m i).2 (qF d m i).1 (d i) (d i).length else qF d m i
theorem OS {n:Nat} {d:Nat->List Int} (hd:DH n d) {m:List Bool} (hm:m.length=n):∀i,i<=n->(qF d m i).2.length=n/\(∀x,a8 m x=true->a8 (qF d m i).2 x=true)/\(∀s,(∀x,a8 m x=true->lq d s x)->∀x,a8 (qF d m i).2 x=true->lq d s x)/\
 (((qF d m i).1=false/\(qF d m i).2=m/\∀j,j<i->a8 m j=true->∀k,k<(d j).length->a8 m (a8 (d j) k).toNat=true)\/((qF d m i).1=true/\oH m<oH (qF d m i).2))
 |0,_=>⟨hm,λ_ h=>h,λ_ h=>h,Or.inl ⟨rfl,rfl,λj hj=>absurd hj (adS _)⟩⟩
 |i+1,hi=>by
  obtain⟨i1,i2,i3,i4⟩:=OS hd hm i ade;unfold qF
  by_cases hc:a8 (qF d m i).2 i=true
  ·rw[adp hc];obtain⟨p1,p2,p3,p4,p5⟩:=OA (c:=(qF d m i).1) i1 (hd i ade) _ (adw _);refine⟨p1,λx hx=>p2 x (i2 x hx),λs hs x hx=> ?_,?_⟩
   ·rcases p3 x hx with hx|⟨k,hk,rfl⟩
    ·exact i3 s hs x hx
    ·exact lq.step i k (i3 s hs i hc) hk
   ·rcases p5 with⟨q1,q2⟩|⟨q1,q2⟩
    ·rw[q1,q2];rcases i4 with⟨r1,r2,r3⟩|r
     ·refine Or.inl ⟨r1,r2,λj hj RB k hk=> ?_⟩
      by_cases e:j=i
      ·subst e;have:=p4 k hk;rw[q2,r2] at this;exact this
      ·exact r3 j ade RB k hk
     ·exact Or.inr r
    ·refine Or.inr ⟨q1,?_⟩;have:=lC m (qF d m i).2 (by rw[hm,i1]) i2;omega
  ·rw[adq hc];refine⟨i1,i2,i3,?_⟩;rcases i4 with⟨r1,r2,r3⟩|r
   ·refine Or.inl ⟨r1,r2,λj hj RB k hk=> ?_⟩
    by_cases e:j=i
    ·subst e;rw[r2] at hc;exact absurd RB hc
    ·exact r3 j ade RB k hk
   ·exact Or.inr r
theorem LW {l:List aX} (h0:je l=0):∃m,Ig l.length (cU l) 0 m/\LV l=some m:=by
 have ok:=jf h0;obtain⟨n0,n1⟩:=ok.n;have fe:DH l.length (cU l):=λi hi k hk=>ok.b i hi k hk
 have hb:∀{k:Nat->Option (List Bool)},T.b_ 1073741824 l.length k=k l.length:=by
  intro k;rw[T.d4,adh,adx]
 have e0:(bd l.length false).length=l.length:=adz;obtain⟨qc,eR,nZ⟩:=wD n0;unfold LV;rw[hb,fX _ (by rw[e0];exact n0)];generalize ae (bd l.length false) 0 true=m0 at qc eR nZ⊢;refine qT (P:=Ig l.length (cU l) 0) _ (λm hm=>⟨m,hm,rfl⟩) (oe
  (λ(p:Bool×List Bool)=>p.2.length=l.length/\a8 p.2 0=true/\(∀x,a8 p.2 x=true->lq (cU l) 0 x)/\(p.1=false->YM l.length (cU l) p.2))
  (Ig l.length (cU l) 0) (λp=>2*(l.length-oH p.2)+(if p.1=true then 1 else 0)) ?_ ?_ ?_)
 ·exact⟨qc,(eR 0).2 rfl,λx hx=>by rw[(eR x).1 hx];exact lq.here,λh=>by cases h⟩
 ·simp only[adA];omega
 ·rintro⟨c,m⟩ ⟨I1,I2,I3,I4⟩;dsimp only at I1 I2 I3 I4⊢;cases c with
  |false=>
   right;exact⟨m,rfl,A2 fe n0 I1 I2 I3 (I4 rfl)⟩
  |true=>
   left;obtain⟨q1,q2,q3,q4⟩:=OS fe I1 l.length (adw _);refine⟨qF (cU l) m l.length,?_,⟨q1,q2 0 I2,q3 0 I3,λmn=> ?_⟩,?_⟩
   ·rw[aD rfl];rw[aV (λi=>((qF (cU l) m i).1,(i:Int),(qF (cU l) m i).2)) l.length (qF (cU l) m l.length) ?_ ade ?_ ?_]
    ·rfl
    ·rfl
    ·intro i hi;obtain⟨t1,t2,t3,t4⟩:=OS fe I1 i ade;have ef:xT l (i:Int)=some (cU l i):=EA ade hi;have hin':=fe i hi;have n_:(cU l i).length<=2:=lB _ _;rw[show qF (cU l) m (i+1)=if a8 (qF (cU l) m i).2 i=true then pF (qF (cU l) m i).2 (qF (cU l) m i).1 (cU l i) (cU l i).length else qF (cU l) m i from rfl];simp only[cZ,hi,ao,ads,adA,ef,a9];generalize cU l i=d at hin' n_⊢;generalize hq:qF (cU l) m i=z at t1⊢;obtain⟨c',m'⟩:=z;dsimp only at t1⊢
     by_cases hc:a8 m' i=true
     ·rw[adp hc];rw[aV (λk=>((pF m' c' d k).1,(k:Int),(pF m' c' d k).2)) d.length (pF m' c' d d.length) ?_ ade ?_ ?_]
      ·rw[aU ade];rfl
      ·rfl
      ·intro k hk;obtain⟨b1,b2⟩:=hin' k hk;obtain⟨u1,u2,u3,u4,u5⟩:=OA (c:=c') t1 hin' k ade;have hi':i<(pF m' c' d k).2.length:=ade;simp only[cZ,hk,hi',u2 i hc,ads,adA,ak,join_some];rw[bE b1 ade,aU ade,bE b1 ade];rw[show pF m' c' d (k+1)=if a8 (pF m' c' d k).2 (a8 d k).toNat=true then pF m' c' d k else(true,ae (pF m' c' d k).2 (a8 d k).toNat true) from rfl]
       by_cases lh:a8 (pF m' c' d k).2 (a8 d k).toNat=true
       ·rw[adp lh,adq (by rw[lh];decide)];rfl
       ·have hf:a8 (pF m' c' d k).2 (a8 d k).toNat=false:=by simpa using lh
        rw[adq lh,adp (by rw[hf];rfl)];rfl
      ·simp only[ba];rfl
     ·rw[adq hc];rw[aV (λk=>(c',(k:Int),m')) 0 (c',m') ?_ ade ?_ ?_]
      ·rw[aU ade];rfl
      ·rfl
      ·intro k hk;exact absurd hk (adS _)
      ·have hj':i<m'.length:=by omega
       have hf:a8 m' i=false:=by simpa using hc
       simp only[ak,hj',adA,hf]
       by_cases hd:0<d.length
       ·have:aO ((0:Nat):Int) d.length=true:=by rw[aE];exact adf
        rw[this];rfl
       ·have:aO ((0:Nat):Int) d.length=false:=by rw[aE];exact adg
        rw[this];rfl
    ·simp only[ba,ao];rfl
   ·rcases q4 with⟨r1,r2,r3⟩|⟨r1,r2⟩
    ·rw[r2];exact r3
    ·rw[r1] at mn;cases mn
   ·have:=kR (qF (cU l) m l.length).2;rcases q4 with⟨r1,r2,r3⟩|⟨r1,r2⟩
    ·rw[r1,r2];simp
    ·rw[r1];simp only[adA];omega
def Sub (a b:Nat):Prop:=∀i,a.testBit i=true->b.testBit i=true
theorem Sub.refl (a:Nat):Sub a a:=λ_ h=>h
theorem Sub.trans {a b c:Nat} (h:Sub a b) (h':Sub b c):Sub a c:=λi hi=>h' i (h i hi)
theorem Sub.a7q {a b:Nat} (h:Sub a b) (h':Sub b a):a=b:=Nat.eq_of_testBit_eq λi=>by
 rw[ae8];exact⟨h i,h' i⟩
theorem Sub.le {a b:Nat} (h:Sub a b):a<=b:=by
 have:Nat.land a b=a:=by
  show a&&&b=a;apply Nat.eq_of_testBit_eq;intro i;rw[Nat.testBit_and];cases e:a.testBit i with
  |false=>rfl
  |true=>rw[h i e];rfl
 have h2:a&&&b<=b:=Nat.and_le_right;have h3:a&&&b=a:=this;omega
theorem Sub.NH (a b:Nat):Sub (Nat.land a b) a:=λi hi=>by
 have:(a&&&b).testBit i=true:=hi;rw[Nat.testBit_and,adr] at this;exact this.1
theorem Sub.NI (a b:Nat):Sub (Nat.land a b) b:=λi hi=>by
 have:(a&&&b).testBit i=true:=hi;rw[Nat.testBit_and,adr] at this;exact this.2
theorem Sub.glb {a b c:Nat} (h:Sub c a) (h':Sub c b):Sub c (Nat.land a b):=λi hi=>by
 show(a&&&b).testBit i=true;rw[Nat.testBit_and,h i hi,h' i hi];rfl
theorem Sub.lor {a b:Nat} (h:Sub a b) (w:Nat):Sub (Nat.lor a w) (Nat.lor b w):=λi hi=>by
 have:(a|||w).testBit i=true:=hi;show(b|||w).testBit i=true;rw[Nat.testBit_or,aec] at*;rcases this with h1|h1
 ·exact Or.inl (h i h1)
 ·exact Or.inr h1
theorem Sub.lub {a b c:Nat} (h:Sub a c) (h':Sub b c):Sub (Nat.lor a b) c:=λi hi=>by
 have:(a|||b).testBit i=true:=hi;rw[Nat.testBit_or,aec] at this;rcases this with h1|h1
 ·exact h i h1
 ·exact h' i h1
theorem Sub.zero (a:Nat):Sub 0 a:=λi hi=>by rw[Nat.zero_testBit] at hi;cases hi
def lj (n:Nat):Nat:=2^n-1
theorem AF (n i:Nat):(lj n).testBit i=decide (i<n):=Nat.testBit_two_pow_sub_one n i
theorem wC {n:Nat} (h:n<=16):lj n<65536:=by
 have:2^n<=2^16:=Nat.pow_le_pow_right ade h;unfold lj;omega
theorem TF {n:Nat} (h:n<=16):eE 7 (la 7 1 n) 1=lj n:=by
 have h1:2^n<=2^16:=Nat.pow_le_pow_right ade h;have h2:0<2^n:=Nat.pow_pos ade;rw[T.pY,aeo,Nat.mod_eq_of_lt (show 2^n<fo 7 by have:fo 7=18446744073709551616:=rfl;omega),rq ade ade];rfl
def Fb (l:List Int):Nat->Nat
 |0=>0
 |k+1=>Nat.lor (Fb l k) (2^(a8 l k).toNat)
theorem wH {l:List Int} {s:Nat} (h:∀k,k<l.length->0<=a8 l k/\a8 l k<s):∀k,k<=l.length->Sub (Fb l k) (lj s)
 |0,_=>Sub.zero _
 |k+1,hk=>by
  refine Sub.lub (wH h k ade) λi hi=> ?_
  rw[Nat.testBit_two_pow] at hi;have:=h k ade;rw[AF,adk];have:=aed hi;omega
theorem a38 {s:Nat} (h:s<64):la 7 1 s=2^s:=by
 have:2^s<2^64:=Nat.pow_lt_pow_right ade h;rw[T.pY,aeo,Nat.mod_eq_of_lt];exact this
def gg (x:aX):List Int×List Int:=(pk (JI (aM x.1).1) (a8 (opsL x)) 3,pk (J' (aM x.1).1) (a8 (opsL x)) 3)
theorem Af {x:aX} (h:pP x=0):C3 x=some ((gg x).1,(gg x).2,0):=by
 have h':oL x=some 0:=by rw[su,h]
 obtain⟨hc,h0⟩:=sv h';exact G1 (l:=(aM x.1).1) (n:=(aM x.1).2) (nh hc) h'
theorem Eo {x:aX} (h:pP x=0):C7 x=some (gg x):=by
 obtain⟨r,w,h1,h2⟩:=a3g (x:=x) (by rw[su,h]);rw[Af h] at h2;rw[h1];injection h2 with h2
 injection h2 with h2 h3
 injection h3 with h3
 rw[<-h2,<-h3]
theorem AU (p:Nat->Bool) (v:Nat->Int):∀n,∀x∈pk p v n,0<=x/\∃i,i<n/\p i=true/\v i=x
 |0,x,hx=>by cases hx
 |n+1,x,hx=>by
  unfold pk at hx;split at hx
  ·rename_i hc;rcases adC.1 hx with hx|hx
   ·obtain⟨h0,i,h1,h2⟩:=AU p v n x hx;exact⟨h0,i,ade,h2⟩
   ·rw[adF] at hx;subst hx;exact⟨hc.2,n,ade,hc.1,rfl⟩
  ·obtain⟨h0,i,h1,h2⟩:=AU p v n x hx;exact⟨h0,i,ade,h2⟩
theorem Dl:∀c:Fin 35,∀i:Fin 3,(JI (aM c.1).1 i.1=true\/J' (aM c.1).1 i.1=true)->(a8 (aM c.1).1 i.1).2.1<=15:=by decide+kernel
theorem mD {x:aX} (h:pP x=0) {s:Int} (hs:s∈(gg x).1\/s∈(gg x).2):0<=s/\s<=15:=by
 obtain⟨hc,d6⟩:=pQ h;rcases hs with hs|hs
 ·obtain⟨h0,i,h1,h2,rfl⟩:=AU _ _ _ _ hs;exact⟨h0,Int.le_trans (d6 i h1).2 (Dl ⟨x.1,hc⟩ ⟨i,h1⟩ (Or.inl h2))⟩
 ·obtain⟨h0,i,h1,h2,rfl⟩:=AU _ _ _ _ hs;exact⟨h0,Int.le_trans (d6 i h1).2 (Dl ⟨x.1,hc⟩ ⟨i,h1⟩ (Or.inr h2))⟩
theorem oz (x:aX):(gg x).1.length<=3/\(gg x).2.length<=3:=⟨pT _ _ _,pT _ _ _⟩
def CP (l:List Int):Nat:=Fb l l.length
theorem Mb {l:List Int} (hl:l.length<=1000) (h:∀x∈l,0<=x/\x<=15):Ev l=some (CP l):=by
 unfold Ev CP;rw[aV (λk=>(Fb l k,(k:Int))) l.length (Fb l l.length) ?_ ade ?_ ?_]
 ·rfl
 ·intro k hk;have hx:=h (a8 l k) (by rw[bz hk];exact adT _);simp only[cZ,hk,ao,ads,adA,ak,T.jv,hx.1,T.qZ,a38 (show(a8 l k).toNat<64 by omega),aU (show k<9223372036854775807 by omega)];rfl
 ·simp only[ba,ao];rfl
theorem Wh {x:aX} (h:pP x=0):MM x=some (CP (gg x).2):=by
 unfold MM;rw[Eo h,a9];have hl:=(oz x).2;have fe:∀s∈(gg x).2,0<=s/\s<=15:=λs hs=>mD h (Or.inr hs)
 generalize(gg x).2=l at hl fe⊢;unfold CP;rw[aV (λk=>(Fb l k,(k:Int))) l.length (Fb l l.length) ?_ ade ?_ ?_]
 ·rfl
 ·intro k hk;have hx:=fe (a8 l k) (by rw[bz hk];exact adT _);simp only[cZ,hk,ao,ads,adA,ak,T.jv,hx.1,T.qZ,a38 (show(a8 l k).toNat<64 by omega),aU (show k<9223372036854775807 by omega)];rfl
 ·simp only[ba,ao];rfl
def fU (f:Nat->Nat):Nat->Nat
 |0=>0
 |n+1=>fU f n+f n
theorem vc {f g:Nat->Nat}:∀n,(∀i,i<n->f i<=g i)->fU f n<=fU g n
 |0,_=>adw _
 |n+1,h=>by
  have:=vc n λi hi=>h i ade
  have:=h n ade;simp only[fU];omega
theorem vd {f g:Nat->Nat}:∀n,(∀i,i<n->f i<=g i)->∀j,j<n->f j<g j->fU f n<fU g n
 |n+1,h,j,hj,iJ=>by
  have:=vc n λi hi=>h i ade
  have:=h n ade
  by_cases e:j=n
  ·subst e;simp only[fU];omega
  ·have:=vd n (λi hi=>h i ade) j ade iJ;simp only[fU];omega
theorem rA {f:Nat->Nat} {c:Nat}:∀n,(∀i,i<n->f i<=c)->fU f n<=c*n
 |0,_=>by simp[fU]
 |n+1,h=>by
  have:=rA n λi hi=>h i ade
  have:=h n ade;simp only[fU,Nat.mul_succ];omega
structure PH (d:Nat->List Int) (w:Nat->Nat) (P:Nat) (m:Nat->Nat):Prop where
 z:Sub (m 0) P
 s:∀i,lq d 0 i->∀k,k<(d i).length->Sub (m (a8 (d i) k).toNat) (Nat.lor (m i) (w i))
def SM (d:Nat->List Int) (w:Nat->Nat) (P:Nat) (m:Nat->Nat):Prop:=PH d w P m/\∀m',PH d w P m'->∀i,lq d 0 i->Sub (m' i) (m i)
theorem SM.eq {d:Nat->List Int} {w:Nat->Nat} {P:Nat} {m m':Nat->Nat} (h:SM d w P m) (h':SM d w P m') {i:Nat} (hi:lq d 0 i):m i=m' i:=(h'.2 m h.1 i hi).a7q (h.2 m' h'.1 i hi)
theorem PH.in {d:Nat->List Int} {w:Nat->Nat} {P L:Nat} {m:Nat->Nat} (h:PH d w P m) (hP:Sub P L) (hw:∀i,lq d 0 i->Sub (w i) L) {i:Nat} (hi:lq d 0 i):Sub (m i) L:=by
 induction hi with
 |here=>exact h.z.trans hP
 |step i k hi hk ih=>exact(h.s i hi k hk).trans (Sub.lub ih (hw i hi))
def pM (m:List Nat) (c:Bool) (i w:Nat) (d:List Int):Nat->Bool×List Nat
 |0=>(c,m)
 |k+1=>if Nat.land (a8 (pM m c i w d k).2 (a8 d k).toNat) (Nat.lor (a8 (pM m c i w d k).2 i) w)=a8 (pM m c i w d k).2 (a8 d k).toNat then pM m c i w d k
  else(true,ae (pM m c i w d k).2 (a8 d k).toNat (Nat.land (a8 (pM m c i w d k).2 (a8 d k).toNat) (Nat.lor (a8 (pM m c i w d k).2 i) w)))
def YN (d:Nat->List Int) (m':Nat->Nat) (m:List Nat):Prop:=∀j,lq d 0 j->Sub (m' j) (a8 m j)
theorem Bd {m:List Nat} {t v:Nat} (ht:t<m.length) (h:Sub v (a8 m t)) (j:Nat):Sub (a8 (ae m t v) j) (a8 m j):=by
 rw[dd ht];split
 ·rename_i e;rw[<-e];exact h
 ·exact Sub.refl _
theorem Sy {m:List Nat} {t v n:Nat} (hn:m.length=n) (ht:t<n) (h:Sub v (a8 m t)) (qd:v≠a8 m t):fU (a8 (ae m t v)) n<fU (a8 m) n:=by
 refine vd n (λj _=>(Bd ade h j).le) t ht ?_;rw[dd ade,adp rfl];have h1:=h.le;omega
theorem OB {n:Nat} {d:Nat->List Int} (hd:DH n d) {w:Nat->Nat} {P:Nat} {m:List Nat} {c:Bool} (hm:m.length=n) {i:Nat} (hi:i<n) (hr:lq d 0 i):∀k,k<=(d i).length->
 (pM m c i (w i) (d i) k).2.length=n/\(∀j,Sub (a8 (pM m c i (w i) (d i) k).2 j) (a8 m j))/\(∀m',PH d w P m'->YN d m' m->YN d m' (pM m c i (w i) (d i) k).2)/\
 (((pM m c i (w i) (d i) k).1=c/\(pM m c i (w i) (d i) k).2=m/\∀k',k'<k->Sub (a8 m (a8 (d i) k').toNat) (Nat.lor (a8 m i) (w i)))\/((pM m c i (w i) (d i) k).1=true/\fU (a8 (pM m c i (w i) (d i) k).2) n<fU (a8 m) n))
 |0,_=>⟨hm,λj=>Sub.refl _,λ_ _ h=>h,Or.inl ⟨rfl,rfl,λk' hk'=>absurd hk' (adS _)⟩⟩
 |k+1,hk=>by
  obtain⟨i1,i2,i3,i4⟩:=OB hd (w:=w) (P:=P) (c:=c) hm hi hr k ade;obtain⟨d1,d2⟩:=hd i hi k ade;have ht:(a8 (d i) k).toNat<n:=ade;unfold pM;generalize hz:pM m c i (w i) (d i) k=z at i1 i2 i3 i4⊢;generalize hl:Nat.land (a8 z.2 (a8 (d i) k).toNat) (Nat.lor (a8 z.2 i) (w i))=less;have hs:Sub less (a8 z.2 (a8 (d i) k).toNat):=hl▸Sub.NH _ _;have Ts:Sub less (Nat.lor (a8 z.2 i) (w i)):=hl▸Sub.NI _ _
  by_cases hc:less=a8 z.2 (a8 (d i) k).toNat
  ·rw[adp hc];refine⟨i1,i2,i3,?_⟩;rcases i4 with⟨r1,r2,r3⟩|r
   ·refine Or.inl ⟨r1,r2,λk' hk'=> ?_⟩
    by_cases e:k'=k
    ·subst e;rw[hc,r2] at Ts;exact Ts
    ·exact r3 k' ade
   ·exact Or.inr r
  ·rw[adq hc];dsimp only;refine⟨by rw[cM];exact i1,λj=>(Bd ade hs j).trans (i2 j),λm' hm' X1 j hj=> ?_,Or.inr ⟨rfl,?_⟩⟩
   ·have:=i3 m' hm' X1;rw[dd ade];split
    ·rename_i e;subst e;rw[<-hl];exact Sub.glb (this _ hj) ((hm'.s i hr k ade).trans ((this i hr).lor _))
    ·exact this j hj
   ·have h1:=Sy i1 ht hs hc;have h2:fU (a8 z.2) n<=fU (a8 m) n:=vc n λj _=>(i2 j).le
    omega
def qM (d:Nat->List Int) (w:Nat->Nat) (dC:List Bool) (m:List Nat):Nat->Bool×List Nat
 |0=>(false,m)
 |i+1=>if a8 dC i=true then pM (qM d w dC m i).2 (qM d w dC m i).1 i (w i) (d i) (d i).length else qM d w dC m i
theorem OT {n:Nat} {d:Nat->List Int} (hd:DH n d) {w:Nat->Nat} {P:Nat} {dC:List Bool} (qH:Ig n d 0 dC) {m:List Nat} (hm:m.length=n):∀i,i<=n->
 (qM d w dC m i).2.length=n/\(∀j,Sub (a8 (qM d w dC m i).2 j) (a8 m j))/\(∀m',PH d w P m'->YN d m' m->YN d m' (qM d w dC m i).2)/\
 (((qM d w dC m i).1=false/\(qM d w dC m i).2=m/\∀j,j<i->lq d 0 j->∀k,k<(d j).length->Sub (a8 m (a8 (d j) k).toNat) (Nat.lor (a8 m j) (w j)))\/((qM d w dC m i).1=true/\fU (a8 (qM d w dC m i).2) n<fU (a8 m) n))
 |0,_=>⟨hm,λj=>Sub.refl _,λ_ _ h=>h,Or.inl ⟨rfl,rfl,λj hj=>absurd hj (adS _)⟩⟩
 |i+1,hi=>by
  obtain⟨i1,i2,i3,i4⟩:=OT hd (w:=w) (P:=P) qH hm i ade;unfold qM
  by_cases hc:a8 dC i=true
  ·rw[adp hc];have hr:=(qH.2 i).1 hc;obtain⟨p1,p2,p3,p4⟩:=OB hd (w:=w) (P:=P) (c:=(qM d w dC m i).1) i1 ade hr _ (adw _);refine⟨p1,λj=>(p2 j).trans (i2 j),λm' hm' X1=>p3 m' hm' (i3 m' hm' X1),?_⟩;rcases p4 with⟨q1,q2,q3⟩|⟨q1,q2⟩
   ·rw[q1,q2];rcases i4 with⟨r1,r2,r3⟩|r
    ·refine Or.inl ⟨r1,r2,λj hj hrj k hk=> ?_⟩
     by_cases e:j=i
     ·subst e;rw[r2] at q3;exact q3 k hk
     ·exact r3 j ade hrj k hk
    ·exact Or.inr r
   ·refine Or.inr ⟨q1,?_⟩;have:fU (a8 (qM d w dC m i).2) n<=fU (a8 m) n:=vc n λj _=>(i2 j).le
    omega
  ·rw[adq hc];refine⟨i1,i2,i3,?_⟩;rcases i4 with⟨r1,r2,r3⟩|r
   ·refine Or.inl ⟨r1,r2,λj hj hrj k hk=> ?_⟩
    by_cases e:j=i
    ·subst e;exact absurd ((qH.2 j).2 hrj) hc
    ·exact r3 j ade hrj k hk
   ·exact Or.inr r
def shown (n:Nat) (dC:List Bool) (m:List Nat):Nat->List Nat
 |0=>m
 |i+1=>if a8 dC i=false\/i=n-1 then ae (shown n dC m i) i 0 else shown n dC m i
theorem nH {n:Nat} {dC:List Bool} {m:List Nat} (hm:m.length=n):∀i,i<=n->(shown n dC m i).length=n/\∀j,a8 (shown n dC m i) j=if j<i/\(a8 dC j=false\/j=n-1) then 0 else a8 m j
 |0,_=>⟨hm,λj=>by rw[adi];rfl⟩
 |i+1,hi=>by
  obtain⟨i1,i2⟩:=nH (dC:=dC) hm i ade;unfold shown
  by_cases hc:a8 dC i=false\/i=n-1
  ·rw[adp hc];refine⟨by rw[cM];exact i1,λj=> ?_⟩;rw[dd ade]
   by_cases e:i=j
   ·subst e;rw[adp rfl,adp ⟨ade,hc⟩]
   ·rw[adq e,i2]
    by_cases h:j<i/\(a8 dC j=false\/j=n-1)
    ·rw[adp h,adp ⟨ade,h.2⟩]
    ·rw[adq h,adq λh'=>h ⟨ade,h'.2⟩]
  ·rw[adq hc];refine⟨i1,λj=> ?_⟩;rw[i2]
   by_cases h:j<i/\(a8 dC j=false\/j=n-1)
   ·rw[adp h,adp ⟨ade,h.2⟩]
   ·rw[adq h,adq λh'=>h ⟨?_,h'.2⟩];rcases Nat.lt_or_ge j i with h1|h1
    ·exact h1
    ·have:j=i:=by omega
     subst this;exact absurd h'.2 hc
def fv (l:List aX) (i:Nat):Nat:=CP (gg (a8 l i)).2
def yl (l:List aX) (p:Nat) (o:List Nat):Prop:=o.length=l.length/\∃m,SM (cU l) (fv l) (lj p) m/\(∀i,lq (cU l) 0 i->i≠l.length-1->a8 o i=m i)/\∀i,i<l.length->(¬lq (cU l) 0 i\/i=l.length-1)->a8 o i=0
theorem yl.eq {l:List aX} {p:Nat} {o o':List Nat} (h:yl l p o) (h':yl l p o'):o=o':=by
 obtain⟨h1,m,h2,h3,h4⟩:=h;obtain⟨h1',m',h2',h3',h4'⟩:=h';apply List.ext_getElem ade;intro i hi hi';rw[<-bz hi,<-bz hi']
 by_cases hc:lq (cU l) 0 i/\i≠l.length-1
 ·rw[h3 i hc.1 hc.2,h3' i hc.1 hc.2];exact h2.eq h2' hc.1
 ·have hc:¬lq (cU l) 0 i\/i=l.length-1:=by
   by_cases h:lq (cU l) 0 i
   ·right;apply Classical.byContradiction;intro qd;exact hc ⟨h,qd⟩
   ·exact Or.inl h
  rw[h4 i ade hc,h4' i ade hc]
theorem VV {l:List aX} (h0:je l=0) {p s:Nat} (hs:s<=16) (hp:p<=s) (hw:∀i,i<l.length->Sub (fv l i) (lj s)):∃o,yl l p o/\IT l (p:Int) (s:Int)=some o:=by
 have ok:=jf h0;obtain⟨n0,n1⟩:=ok.n;have fe:DH l.length (cU l):=λi hi k hk=>ok.b i hi k hk
 have hb:∀{k:Nat->Option (List Nat)},T.b_ 1073741824 l.length k=k l.length:=by
  intro k;rw[T.d4,adh,adx]
 have f283_e:∀{q:Nat},q<=16->ML (q:Int)=some (lj q):=by
  intro q hq;unfold ML;rw[T.jv,adh,adx,TF hq]
 obtain⟨dC,qH,el⟩:=LW h0;have x_:Sub (lj p) (lj s):=λi hi=>by
  rw[AF,adk] at*;omega
 unfold IT;rw[el,a9,hb];rw[aV (λi=>((i:Int),List.replicate i (lj s)++List.replicate (l.length-i) 0)) l.length (List.replicate l.length (lj s)) ?_ ade ?_ ?_]
 ·have xJ:(List.replicate l.length (lj s)).length=l.length:=adz;rw[f283_e (show p<=16 by omega),a9,fX _ (by rw[xJ];exact n0)];generalize Cn:ae (List.replicate l.length (lj s)) 0 (lj p)=m0;have qc:m0.length=l.length:=by rw[<-Cn,cM,xJ]
  have eR:∀j,a8 m0 j=if 0=j then lj p else if j<l.length then lj s else 0:=by
   intro j;rw[<-Cn,dd (by rw[xJ];exact n0)];split
   ·rfl
   ·split
    ·rename_i hj;rw[bz (by rw[xJ];exact hj),List.getElem_replicate]
    ·rename_i hj;rw[dJ (by rw[xJ];omega)];rfl
  refine qT (P:=λm:List Nat=>m.length=l.length/\SM (cU l) (fv l) (lj p) (a8 m)) _ (λm hm=>⟨shown l.length dC m l.length,⟨(nH hm.1 _ (adw _)).1,a8 m,hm.2,λi hi qd=> ?_,λi hi hc=> ?_⟩,?_⟩) (oe
   (λ(z:Bool×List Nat)=>z.2.length=l.length/\Sub (a8 z.2 0) (lj p)/\(∀m',PH (cU l) (fv l) (lj p) m'->YN (cU l) m' z.2)/\(z.1=false->∀j,lq (cU l) 0 j->∀k,k<(cU l j).length->Sub (a8 z.2 (a8 (cU l j) k).toNat) (Nat.lor (a8 z.2 j) (fv l j))))
   (λm:List Nat=>m.length=l.length/\SM (cU l) (fv l) (lj p) (a8 m)) (λz=>2*fU (a8 z.2) l.length+(if z.1=true then 1 else 0)) ?_ ?_ ?_)
  ·rw[(nH hm.1 _ (adw _)).2 i,adq];rintro⟨-,h|h⟩
   ·rw[(qH.2 i).2 hi] at h;cases h
   ·exact qd h
  ·rw[(nH hm.1 _ (adw _)).2 i,adp];refine⟨hi,?_⟩;rcases hc with hc|hc
   ·left;have:¬a8 dC i=true:=λh=>hc ((qH.2 i).1 h)
    simpa using this
   ·exact Or.inr hc
  ·have hm1:=hm.1;rw[aV (λi=>((i:Int),shown l.length dC m i)) l.length (shown l.length dC m l.length) ?_ ade ?_ ?_]
   ·rfl
   ·intro i hi;have Tt:=(nH (dC:=dC) hm1 i ade).1;have K4:i<dC.length:=by rw[qH.1];exact hi
    have his:i<(shown l.length dC m i).length:=ade;have sb:bq 3 l.length 1=((l.length-1:Nat):Int):=by rw[cD ade ade];omega
    have ei:bm (i:Int) ((l.length-1:Nat):Int)=decide (i=l.length-1):=by rw[aG];congr 1;rw[eq_iff_iff];omega
    simp only[cZ,hi,K4,his,ao,ads,adA,ak,aA,sb,ei,aU (show i<9223372036854775807 by omega),shown]
    by_cases hc:a8 dC i=true
    ·rw[adq (by rw[hc];decide),join_some]
     by_cases e:i=l.length-1
     ·rw[adp (adm e),adp (Or.inr e)];rfl
     ·rw[adq (by simpa using e),adq (by rw[hc];simpa using e)];rfl
    ·have hf:a8 dC i=false:=by simpa using hc
     rw[adp (by rw[hf];rfl),join_some,adp rfl,adp (Or.inl hf)];rfl
   ·simp only[ba,ao];rfl
  ·refine⟨qc,by rw[eR,adp rfl];exact Sub.refl _,λm' hm' j hj=> ?_,λh=>by cases h⟩;have nq:=mb fe n0 hj;rw[eR];split
   ·rename_i e;subst e;exact hm'.z
   ·exact hm'.in x_ (λi hi=>hw i (mb fe n0 hi)) hj
  ·have hmx:fU (a8 m0) l.length<=65536*l.length:=rA _ λi _=>by
    rw[eR];have e1:=wC hs;have e2:=wC (show p<=16 by omega);split
    ·omega
    ·first
     |omega
     |(split<;>omega)
   simp only[adA];omega
  ·rintro⟨c,m⟩ ⟨I1,I2,I3,I4⟩;dsimp only at I1 I2 I3 I4⊢;cases c with
   |false=>
    right;exact⟨m,rfl,I1,⟨I2,I4 rfl⟩,λm' hm' i hi=>I3 m' hm' i hi⟩
   |true=>
    left;obtain⟨q1,q2,q3,q4⟩:=OT fe (w:=fv l) (P:=lj p) qH I1 l.length (adw _);refine⟨qM (cU l) (fv l) dC m l.length,?_,⟨q1,(q2 0).trans I2,λm' hm'=>q3 m' hm' (I3 m' hm'),λmn=> ?_⟩,?_⟩
    ·rw[aD rfl];rw[aV (λi=>((qM (cU l) (fv l) dC m i).1,(i:Int),(qM (cU l) (fv l) dC m i).2)) l.length (qM (cU l) (fv l) dC m l.length) ?_ ade ?_ ?_]
     ·rfl
     ·rfl
     ·intro i hi;obtain⟨t1,t2,t3,t4⟩:=OT fe (w:=fv l) (P:=lj p) qH I1 i ade;have ef:xT l (i:Int)=some (cU l i):=EA ade hi;have hin':=fe i hi;have n_:(cU l i).length<=2:=lB _ _;have K4:i<dC.length:=by rw[qH.1];exact hi
      have ewr:MM (a8 l i)=some (fv l i):=Wh (ok.c i hi);rw[show qM (cU l) (fv l) dC m (i+1)=if a8 dC i=true then pM (qM (cU l) (fv l) dC m i).2 (qM (cU l) (fv l) dC m i).1 i (fv l i) (cU l i) (cU l i).length else qM (cU l) (fv l) dC m i from rfl];simp only[cZ,hi,ao,ads,adA,ef,a9];generalize hq:qM (cU l) (fv l) dC m i=z at t1⊢;obtain⟨c',m'⟩:=z;dsimp only at t1⊢
      by_cases hc:a8 dC i=true
      ·rw[adp hc];have hr:=(qH.2 i).1 hc;have hpk:=λk hk=>OB fe (w:=fv l) (P:=lj p) (c:=c') t1 hi hr k hk
       generalize cU l i=d at hin' n_ hpk⊢;rw[aV (λk=>((pM m' c' i (fv l i) d k).1,(k:Int),(pM m' c' i (fv l i) d k).2)) d.length (pM m' c' i (fv l i) d d.length) ?_ ade ?_ ?_]
       ·rw[aU ade];rfl
       ·rfl
       ·intro k hk;obtain⟨b1,b2⟩:=hin' k hk;have u1:=(hpk k ade).1;have hi':i<(pM m' c' i (fv l i) d k).2.length:=ade;simp only[cZ,hk,K4,hc,hi',hi,ads,adA,ak,join_some,ewr,a9];rw[bE b1 ade,bE b1 ade,aU ade,bE b1 ade,T.mV,T.qZ];rw[show pM m' c' i (fv l i) d (k+1)=if Nat.land (a8 (pM m' c' i (fv l i) d k).2 (a8 d k).toNat) (Nat.lor (a8 (pM m' c' i (fv l i) d k).2 i) (fv l i))=a8 (pM m' c' i (fv l i) d k).2 (a8 d k).toNat then pM m' c' i (fv l i) d k
         else(true,ae (pM m' c' i (fv l i) d k).2 (a8 d k).toNat (Nat.land (a8 (pM m' c' i (fv l i) d k).2 (a8 d k).toNat) (Nat.lor (a8 (pM m' c' i (fv l i) d k).2 i) (fv l i)))) from rfl]
        rw[aA,ax]
        by_cases lh:Nat.land (a8 (pM m' c' i (fv l i) d k).2 (a8 d k).toNat) (Nat.lor (a8 (pM m' c' i (fv l i) d k).2 i) (fv l i))=a8 (pM m' c' i (fv l i) d k).2 (a8 d k).toNat
        ·rw[adq (by rw[adm lh];decide),adp lh];rfl
        ·rw[adp (by rw[adl lh];rfl),adq lh];rfl
       ·simp only[ba];rfl
      ·rw[adq hc];generalize cU l i=d;rw[aV (λk=>(c',(k:Int),m')) 0 (c',m') ?_ ade ?_ ?_]
       ·rw[aU ade];rfl
       ·rfl
       ·intro k hk;exact absurd hk (adS _)
       ·have hf:a8 dC i=false:=by simpa using hc
        simp only[ak,K4,adA,hf]
        by_cases hd:0<d.length
        ·have:aO ((0:Nat):Int) d.length=true:=by rw[aE];exact adf
         rw[this];rfl
        ·have:aO ((0:Nat):Int) d.length=false:=by rw[aE];exact adg
         rw[this];rfl
     ·simp only[ba,ao];rfl
    ·rcases q4 with⟨r1,r2,r3⟩|⟨r1,r2⟩
     ·rw[r2];exactλj hj=>r3 j (mb fe n0 hj) hj
     ·rw[r1] at mn;cases mn
    ·rcases q4 with⟨r1,r2,r3⟩|⟨r1,r2⟩
     ·rw[r1,r2];simp
     ·rw[r1];simp only[adA];omega
 ·rfl
 ·intro i hi;have hl1:i<(List.replicate i (lj s)++List.replicate (l.length-i) 0).length:=by rw[ado,adz,adz];omega
  simp only[cZ,hi,hl1,ao,ads,adA,f283_e hs,a9,ak,aU (show i<9223372036854775807 by omega)];rw[mz (adz) hi,<-List.replicate_succ'];rfl
 ·simp only[ba,ao,aep,List.replicate_zero,adP];rfl
abbrev Y6:Type:=List Bool×List Nat×List Int
def wF (z0:Y6) (i w:Nat) (d:List Int):Nat->Y6
 |0=>z0
 |k+1=>if a8 (wF z0 i w d k).1 (a8 d k).toNat=true then
   (if Nat.land (a8 (wF z0 i w d k).2.1 (a8 d k).toNat) (Nat.lor (a8 (wF z0 i w d k).2.1 i) w)=a8 (wF z0 i w d k).2.1 (a8 d k).toNat then wF z0 i w d k
    else((wF z0 i w d k).1,ae (wF z0 i w d k).2.1 (a8 d k).toNat (Nat.land (a8 (wF z0 i w d k).2.1 (a8 d k).toNat) (Nat.lor (a8 (wF z0 i w d k).2.1 i) w)),(wF z0 i w d k).2.2++[a8 d k]))
  else(ae (wF z0 i w d k).1 (a8 d k).toNat true,ae (wF z0 i w d k).2.1 (a8 d k).toNat (Nat.lor (a8 (wF z0 i w d k).2.1 i) w),(wF z0 i w d k).2.2++[a8 d k])
def BG (z:Y6) (j:Nat):Nat:=if a8 z.1 j=true then a8 z.2.1 j else 1048576
structure WOk (n L:Nat) (z0 z:Y6) (i w:Nat) (dl:List Int) (k:Nat):Prop where
 a:z.1.length=n/\z.2.1.length=n
 b:∀j,a8 z0.1 j=true->a8 z.1 j=true
 b':∀j,a8 z.1 j=true->a8 z0.1 j=true\/∃k',k'<k/\(a8 dl k').toNat=j
 c:∀k',k'<k->a8 z.1 (a8 dl k').toNat=true
 d:∀j,a8 z0.1 j=true->Sub (a8 z.2.1 j) (a8 z0.2.1 j)
 f:(i:Int)∈z.2.2\/∀k',k'<k->Sub (a8 z.2.1 (a8 dl k').toNat) (Nat.lor (a8 z0.2.1 i) w)
 g:∀x∈z0.2.2,x∈z.2.2
 g':∀x∈z.2.2,x∈z0.2.2\/(0<=x/\x<(n:Int)/\a8 z.1 x.toNat=true)
 h:∀j,a8 z0.1 j=true->a8 z.2.1 j=a8 z0.2.1 j\/(j:Int)∈z.2.2
 h':∀j,a8 z.1 j=true->a8 z0.1 j=true\/(j:Int)∈z.2.2
 j:∀j,a8 z.1 j=false->a8 z.2.1 j=0
 k:∀j,Sub (a8 z.2.1 j) L
 l:2*fU (BG z) n+z.2.2.length<=2*fU (BG z0) n+z0.2.2.length
theorem Ux {n L:Nat} {d:Nat->List Int} (hd:DH n d) {w:Nat->Nat} {P:Nat} (hL:L<65536) {z0:Y6} (h1:z0.1.length=n) (h2:z0.2.1.length=n) {i:Nat} (hi:i<n) (hr:lq d 0 i) (hm:a8 z0.1 i=true) (hw:Sub (w i) L) (hz:∀j,a8 z0.1 j=false->a8 z0.2.1 j=0) (Jd:∀j,Sub (a8 z0.2.1 j) L):∀k,k<=(d i).length->
 WOk n L z0 (wF z0 i (w i) (d i) k) i (w i) (d i) k/\(∀m',PH d w P m'->(∀j,a8 z0.1 j=true->Sub (m' j) (a8 z0.2.1 j))->∀j,a8 (wF z0 i (w i) (d i) k).1 j=true->Sub (m' j) (a8 (wF z0 i (w i) (d i) k).2.1 j))
 |0,_=>⟨⟨⟨h1,h2⟩,λ_ h=>h,λ_ h=>Or.inl h,λk' hk'=>absurd hk' (adS _),λ_ _=>Sub.refl _,Or.inr λk' hk'=>absurd hk' (adS _),λ_ h=>h,λ_ h=>Or.inl h,λ_ _=>Or.inl rfl,λ_ h=>Or.inl h,hz,Jd,adw _⟩,λ_ _ h=>h⟩
 |k+1,hk=>by
  obtain⟨W,Lo⟩:=Ux hd (w:=w) (P:=P) hL h1 h2 hi hr hm hw hz Jd k ade;obtain⟨d1,d2⟩:=hd i hi k ade;have ht:(a8 (d i) k).toNat<n:=ade;have htI:((a8 (d i) k).toNat:Int)=a8 (d i) k:=ade;have eI:(i:Int)∈(wF z0 i (w i) (d i) k).2.2\/a8 (wF z0 i (w i) (d i) k).2.1 i=a8 z0.2.1 i:=by
   rcases W.h i hm with h|h
   ·exact Or.inr h
   ·exact Or.inl h
  unfold wF;generalize hz':wF z0 i (w i) (d i) k=z at W Lo eI⊢;obtain⟨za,zb⟩:=W.a;generalize w9:Nat.lor (a8 z.2.1 i) (w i)=live;have Nn:Sub live L:=w9▸Sub.lub (W.k i) hw;have hlo:∀m',PH d w P m'->(∀j,a8 z0.1 j=true->Sub (m' j) (a8 z0.2.1 j))->Sub (m' (a8 (d i) k).toNat) live:=λm' hs hl=>by
   rw[<-w9];exact(hs.s i hr k ade).trans ((Lo m' hs hl i (W.b i hm)).lor _)
  by_cases hc:a8 z.1 (a8 (d i) k).toNat=true
  ·rw[adp hc];generalize Nm:Nat.land (a8 z.2.1 (a8 (d i) k).toNat) live=less;have s1:Sub less (a8 z.2.1 (a8 (d i) k).toNat):=Nm▸Sub.NH _ _;have s2:Sub less live:=Nm▸Sub.NI _ _
   by_cases lh:less=a8 z.2.1 (a8 (d i) k).toNat
   ·rw[adp lh];refine⟨⟨W.a,W.b,λj hj=> ?_,λk' hk'=> ?_,W.d,?_,W.g,W.g',W.h,W.h',W.j,W.k,W.l⟩,Lo⟩
    ·rcases W.b' j hj with h|⟨k',h,e⟩
     ·exact Or.inl h
     ·exact Or.inr ⟨k',ade,e⟩
    ·by_cases e:k'=k
     ·subst e;exact hc
     ·exact W.c k' ade
    ·rcases eI with eI|eI
     ·exact Or.inl eI
     ·rcases W.f with f|f
      ·exact Or.inl f
      ·refine Or.inr λk' hk'=> ?_
       by_cases e:k'=k
       ·subst e;rw[<-lh,<-eI,w9];exact s2
       ·exact f k' ade
   ·rw[adq lh];have hs:=Bd (m:=z.2.1) ade s1;have eR:=λj=>dd (l:=z.2.1) (i:=(a8 (d i) k).toNat) (j:=j) (x:=less) ade
    have mem:a8 (d i) k∈z.2.2++[a8 (d i) k]:=adC.2 (Or.inr (adF.2 rfl));have old:∀{x:Int},x∈z.2.2->x∈z.2.2++[a8 (d i) k]:=λhx=>adC.2 (Or.inl hx)
    refine⟨⟨⟨za,by rw[cM];exact zb⟩,W.b,λj hj=> ?_,λk' hk'=> ?_,λj hj=>(hs j).trans (W.d j hj),?_,λx hx=>old (W.g x hx),λx hx=> ?_,λj hj=> ?_,λj hj=> ?_,λj hj=> ?_,λj=>(hs j).trans (W.k j),?_⟩,λm' hm' hl j hj=> ?_⟩
    ·rcases W.b' j hj with h|⟨k',h,e⟩
     ·exact Or.inl h
     ·exact Or.inr ⟨k',ade,e⟩
    ·by_cases e:k'=k
     ·subst e;exact hc
     ·exact W.c k' ade
    ·rcases eI with eI|eI
     ·exact Or.inl (old eI)
     ·rcases W.f with f|f
      ·exact Or.inl (old f)
      ·refine Or.inr λk' hk'=> ?_
       by_cases e:k'=k
       ·subst e;dsimp only;rw[eR,adp rfl,<-eI,w9];exact s2
       ·exact(hs _).trans (f k' ade)
    ·rcases adC.1 hx with hx|hx
     ·exact W.g' x hx
     ·rw[adF] at hx;subst hx;exact Or.inr ⟨d1,d2,hc⟩
    ·dsimp only;rw[eR];split
     ·rename_i e;subst e;right;rw[htI];exact mem
     ·rcases W.h j hj with h|h
      ·exact Or.inl h
      ·exact Or.inr (old h)
    ·rcases W.h' j hj with h|h
     ·exact Or.inl h
     ·exact Or.inr (old h)
    ·dsimp only at hj⊢;rw[eR];split
     ·rename_i e;subst e;rw[hc] at hj;cases hj
     ·exact W.j j hj
    ·have iJ:fU (BG (z.1,ae z.2.1 (a8 (d i) k).toNat less,z.2.2++[a8 (d i) k])) n<fU (BG z) n:=by
      refine vd n (λj _=> ?_) (a8 (d i) k).toNat ht ?_
      ·unfold BG;dsimp only;split
       ·exact(hs j).le
       ·exact adw _
      ·unfold BG;dsimp only;rw[adp hc,eR,adp rfl,adp hc];have:=s1.le;omega
     have:=W.l;simp only[ado,adJ];omega
    ·dsimp only;rw[eR];split
     ·rename_i e;subst e;rw[<-Nm];exact Sub.glb (Lo m' hm' hl _ hc) (hlo m' hm' hl)
     ·exact Lo m' hm' hl j hj
  ·rw[adq hc];have K3:a8 z.1 (a8 (d i) k).toNat=false:=by simpa using hc
   have Cl:=λj=>dd (l:=z.1) (i:=(a8 (d i) k).toNat) (j:=j) (x:=true) ade
   have eR:=λj=>dd (l:=z.2.1) (i:=(a8 (d i) k).toNat) (j:=j) (x:=live) ade
   have mem:a8 (d i) k∈z.2.2++[a8 (d i) k]:=adC.2 (Or.inr (adF.2 rfl));have old:∀{x:Int},x∈z.2.2->x∈z.2.2++[a8 (d i) k]:=λhx=>adC.2 (Or.inl hx)
   have ne:∀{j},a8 z.1 j=true->(a8 (d i) k).toNat≠j:=λhj e=>by subst e;exact hc hj
   have mono:∀j,a8 z.1 j=true->a8 (ae z.1 (a8 (d i) k).toNat true) j=true:=λj hj=>by
    rw[Cl,adq (ne hj)];exact hj
   refine⟨⟨⟨by rw[cM];exact za,by rw[cM];exact zb⟩,λj hj=>mono j (W.b j hj),λj hj=> ?_,λk' hk'=> ?_,λj hj=> ?_,?_,λx hx=>old (W.g x hx),λx hx=> ?_,λj hj=> ?_,λj hj=> ?_,λj hj=> ?_,λj=> ?_,?_⟩,λm' hm' hl j hj=> ?_⟩
   ·dsimp only at hj;rw[Cl] at hj;split at hj
    ·rename_i e;exact Or.inr ⟨k,ade,e⟩
    ·rcases W.b' j hj with h|⟨k',h,e⟩
     ·exact Or.inl h
     ·exact Or.inr ⟨k',ade,e⟩
   ·dsimp only
    by_cases e:k'=k
    ·subst e;rw[Cl,adp rfl]
    ·exact mono _ (W.c k' ade)
   ·dsimp only;rw[eR,adq (ne (W.b j hj))];exact W.d j hj
   ·rcases eI with eI|eI
    ·exact Or.inl (old eI)
    ·rcases W.f with f|f
     ·exact Or.inl (old f)
     ·refine Or.inr λk' hk'=> ?_
      dsimp only
      by_cases e:k'=k
      ·subst e;rw[eR,adp rfl,<-eI,w9];exact Sub.refl _
      ·rw[eR,adq (ne (W.c k' ade))];exact f k' ade
   ·rcases adC.1 hx with hx|hx
    ·rcases W.g' x hx with h|⟨h1,h2,h3⟩
     ·exact Or.inl h
     ·exact Or.inr ⟨h1,h2,mono _ h3⟩
    ·rw[adF] at hx;subst hx;exact Or.inr ⟨d1,d2,by dsimp only;rw[Cl,adp rfl]⟩
   ·dsimp only;rw[eR,adq (ne (W.b j hj))];rcases W.h j hj with h|h
    ·exact Or.inl h
    ·exact Or.inr (old h)
   ·dsimp only at hj;rw[Cl] at hj;split at hj
    ·rename_i e;right;rw[<-e,htI];exact mem
    ·rcases W.h' j hj with h|h
     ·exact Or.inl h
     ·exact Or.inr (old h)
   ·dsimp only at hj⊢;rw[Cl] at hj;rw[eR];split at hj
    ·cases hj
    ·rename_i e;rw[adq e];exact W.j j hj
   ·dsimp only;rw[eR];split
    ·exact Nn
    ·exact W.k j
   ·have iJ:fU (BG (ae z.1 (a8 (d i) k).toNat true,ae z.2.1 (a8 (d i) k).toNat live,z.2.2++[a8 (d i) k])) n<fU (BG z) n:=by
     have n_:=Nn.le;refine vd n (λj _=> ?_) (a8 (d i) k).toNat ht ?_
     ·unfold BG;dsimp only;rw[Cl,eR]
      by_cases e:(a8 (d i) k).toNat=j
      ·subst e;simp only[adA,K3];simp;omega
      ·rw[adq e,adq e];exact adw _
     ·unfold BG;dsimp only;rw[Cl,eR,adp rfl,adp rfl,adp rfl,adq hc];omega
    have:=W.l;simp only[ado,adJ];omega
   ·dsimp only at hj⊢;rw[Cl] at hj;rw[eR]
    by_cases e:(a8 (d i) k).toNat=j
    ·subst e;rw[adp rfl];exact hlo m' hm' hl
    ·rw[adq e] at hj⊢;exact Lo m' hm' hl j hj
def mF (l:List aX):Nat->List Nat
 |0=>[]
 |k+1=>mF l k++[fv l k]
theorem iD (l:List aX):∀k,(mF l k).length=k
 |0=>rfl
 |k+1=>by rw[mF,ado,iD l k];rfl
theorem Ia (l:List aX):∀{k j},j<k->a8 (mF l k) j=fv l j
 |k+1,j,h=>by
  by_cases hj:j<k
  ·rw[mF,dI (by rw[iD];exact hj),Ia l hj]
  ·have:j=k:=by omega
   subst this;rw[mF,gE (iD l j)]
theorem Sn {α:Type} [Zr α] {m:List α} {k:Nat} (hk:k<m.length):ae m k (a8 m k)=m:=by
 apply List.ext_getElem (by rw[cM]);intro i h1 h2;rw[<-bz h1,<-bz h2,dd hk];split
 ·rename_i e;rw[e]
 ·rfl
theorem Sx {m s:Nat} (h:Sub m (lj s)):m/2^s=0:=by
 have h1:=h.le;have h2:0<2^s:=Nat.pow_pos ade;unfold lj at h1;exact Nat.div_eq_of_lt ade
theorem VH {l:List aX} (hf:Fit (.sl cK) l) (h0:je l=0) {p s:Nat} (hs:s<=16) (hp:p<=s) (hrw:∀i,i<l.length->∀x,(x∈(gg (a8 l i)).1\/x∈(gg (a8 l i)).2)->x<(s:Int)):∃o,yl l p o/\QL l (p:Int) (s:Int)=some (o,0):=by
 have ok:=jf h0;obtain⟨n0,n1⟩:=ok.n;have fe:DH l.length (cU l):=λi hi k hk=>ok.b i hi k hk
 have hb:∀{ρ:Type} {k:Nat->Option ρ},T.b_ 1073741824 l.length k=k l.length:=by
  intro ρ k;rw[T.d4,adh,adx]
 have a0m:∀(r:List Int),(∀x∈r,0<=x/\x<(s:Int))->Sub (CP r) (lj s):=λr hr=>wH (λk hk=>hr (a8 r k) (by rw[bz hk];exact adT _)) _ (adw _)
 have hw:∀i,i<l.length->Sub (fv l i) (lj s):=λi hi=>a0m _ λx hx=>⟨(mD (ok.c i hi) (Or.inr hx)).1,hrw i hi x (Or.inr hx)⟩
 have x_:Sub (lj p) (lj s):=λi hi=>by
  rw[AF,adk] at*;omega
 have e1:aO (s:Int) 0=false:=by rw[aE];exact adg
 have e2:aO 16 (s:Int)=false:=by rw[aE];exact adg
 have e3:aO (p:Int) 0=false:=by rw[aE];exact adg
 have e4:aO (s:Int) (p:Int)=false:=by rw[aE];exact adg
 have em:aO (-1) 0=true:=by rw[aE];rfl
 unfold QL;rw[Ag ade,h0,a9,aC cE,e1,aC rfl,e2,aC rfl,e3,aC rfl,e4,join_some,aC rfl,hb];rw[aV (λi=>((i:Int),mF l i++List.replicate (l.length-i) 0)) l.length (mF l l.length) ?_ ade ?_ ?_]
 ·have er1:(bd l.length false).length=l.length:=adz;have er2:(bd l.length 0).length=l.length:=adz;rw[hb,hb,em,aD rfl,T.jv,adh,adx,fX _ (by rw[er1];exact n0),fX _ (by rw[er2];exact n0),TF ade];obtain⟨qc,eR,nZ⟩:=wD n0;generalize ae (bd l.length false) 0 true=m0 at qc eR nZ⊢;generalize ho0:ae (bd l.length 0) 0 (lj p)=o0;have X4:o0.length=l.length:=by rw[<-ho0,cM,er2]
  have Jg:∀j,a8 o0 j=if 0=j then lj p else 0:=by
   intro j;rw[<-ho0,dd (by rw[er2];exact n0)];split
   ·rfl
   ·by_cases hj:j<l.length
    ·rw[bz (by rw[er2];exact hj)];simp[bd]
    ·rw[dJ (by rw[er2];omega)];rfl
  suffices H:∃r,(∃o,yl l p o/\r=(o,(0:Int)))/\(loop ((List Bool)×((List Nat)×(List Int))) ((List Bool)×(List Nat)) ((List Bool)×((List Nat)×(List Int))) (λv9=>(af (aO 0 v9.2.2.length) (λ_=>(ai v9.2.2.length (bq 3 v9.2.2.length 1) (λv10=>(b_ v9.2.2.length (bq 3 v9.2.2.length 1) (λv11=>(bind (pz l (a8 v9.2.2 v10)) (λv12=>(loop (Int×((List Bool)×((List Nat)×(List Int)))) ((List Bool)×((List Nat)×(List Int))) ((List Bool)×((List Nat)×(List Int))) (λv13=>(af (aO v13.1 v12.length) (λ_=>(ai v12.length v13.1 (λv14=>(af (aO (a8 v9.2.2 v10) 0) (λ_=>(jZ (p:Int) (λv15=>(ai v13.2.1.length (a8 v12 v14) (λv16=>(ai v13.2.2.1.length (a8 v12 v14) (λv17=>(bj (aJ v13.2.2.2.length 1) (bh ((ab 3 v13.1 1),(ae v13.2.1 v16 true),(ae v13.2.2.1 v17 (eE 7 (la 7 1 v15) 1)),(aw v13.2.2.2 [(a8 v12 v14)]))))))))))) λ_=>(ai v13.2.2.1.length (a8 v9.2.2 v10) (λv15=>(ai (mF l l.length).length (a8 v9.2.2 v10) (λv16=>(ai v13.2.1.length (a8 v12 v14) (λv17=>(af (an (a8 v13.2.1 v17)) (λ_=>(ai v13.2.1.length (a8 v12 v14) (λv18=>(ai v13.2.2.1.length (a8 v12 v14) (λv19=>(bj (aJ v13.2.2.2.length 1) (bh ((ab 3 v13.1 1),(ae v13.2.1 v18 true),(ae v13.2.2.1 v19 (m8 (a8 v13.2.2.1 v15) (a8 (mF l l.length) v16))),(aw v13.2.2.2 [(a8 v12 v14)]))))))))) λ_=>(ai v13.2.2.1.length (a8 v12 v14) (λv18=>(ai v13.2.2.1.length (a8 v12 v14) (λv19=>(ai v13.2.2.1.length (a8 v12 v14) (λv20=>(ai (ae v13.2.2.1 v20 (fW (a8 v13.2.2.1 v19) (m8 (a8 v13.2.2.1 v15) (a8 (mF l l.length) v16)))).length (a8 v12 v14) (λv21=>(af (an (aR (a8 (ae v13.2.2.1 v20 (fW (a8 v13.2.2.1 v19) (m8 (a8 v13.2.2.1 v15) (a8 (mF l l.length) v16)))) v21) (a8 v13.2.2.1 v18))) (λ_=>(bj (aJ v13.2.2.2.length 1) (bh ((ab 3 v13.1 1),v13.2.1,(ae v13.2.2.1 v20 (fW (a8 v13.2.2.1 v19) (m8 (a8 v13.2.2.1 v15) (a8 (mF l l.length) v16)))),(aw v13.2.2.2 [(a8 v12 v14)]))))) λ_=>(bh ((ab 3 v13.1 1),v13.2.1,(ae v13.2.2.1 v20 (fW (a8 v13.2.2.1 v19) (m8 (a8 v13.2.2.1 v15) (a8 (mF l l.length) v16)))),v13.2.2.2)))))))))))))))))))))) λ_=>(lex (v13.2.1,v13.2.2.1,v13.2.2.2)))) (0,v9.1,v9.2.1,(av v11 v9.2.2)) (λv13=>(bh (v13.1,v13.2.1,v13.2.2))) (λv13=>none))))))))) λ_=>(lex (v9.1,v9.2.1)))) (m0,o0,[0]) (λv9=>(ai v9.2.length (bq 3 v9.2.length 1) (λv10=>(some ((ae v9.2 v10 0),(0:Int)))))) (λv9=>none))=some r by
   obtain⟨r,⟨m,h1,rfl⟩,h3⟩:=H;exact⟨m,h1,h3⟩
  have el0:=wC hs;refine qT (P:=λz:List Bool×List Nat=>Ig l.length (cU l) 0 z.1/\z.2.length=l.length/\SM (cU l) (fv l) (lj p) (a8 z.2)/\∀j,a8 z.1 j=false->a8 z.2 j=0) _ (λz hz=>⟨_,⟨ae z.2 (l.length-1) 0,⟨by rw[cM];exact hz.2.1,a8 z.2,hz.2.2.1,λi hi qd=> ?_,λi hi hc=> ?_⟩,rfl⟩,?_⟩) (oe
   (λ(z:Y6)=>z.1.length=l.length/\z.2.1.length=l.length/\a8 z.1 0=true/\Sub (a8 z.2.1 0) (lj p)/\(∀x,a8 z.1 x=true->lq (cU l) 0 x)/\(∀x:Int,x∈z.2.2->0<=x/\x<l.length/\a8 z.1 x.toNat=true)/\
     (∀i,i<l.length->a8 z.1 i=true->(i:Int)∈z.2.2\/∀k,k<(cU l i).length->a8 z.1 (a8 (cU l i) k).toNat=true/\Sub (a8 z.2.1 (a8 (cU l i) k).toNat) (Nat.lor (a8 z.2.1 i) (fv l i)))/\
     (∀m',PH (cU l) (fv l) (lj p) m'->∀j,a8 z.1 j=true->Sub (m' j) (a8 z.2.1 j))/\(∀j,a8 z.1 j=false->a8 z.2.1 j=0)/\(∀j,Sub (a8 z.2.1 j) (lj s))/\2*fU (BG z) l.length+z.2.2.length<=2*(1048576*l.length)+1)
   (λz:List Bool×List Nat=>Ig l.length (cU l) 0 z.1/\z.2.length=l.length/\SM (cU l) (fv l) (lj p) (a8 z.2)/\∀j,a8 z.1 j=false->a8 z.2 j=0) (λz=>2*fU (BG z) l.length+z.2.2.length) ?_ ?_ ?_)
  ·obtain⟨z1,z2,z3,z4⟩:=hz;rw[dd ade,adi]
  ·obtain⟨z1,z2,z3,z4⟩:=hz;rw[dd ade];split
   ·rfl
   ·rename_i e;rcases hc with hc|hc
    ·refine z4 i ?_;have:¬a8 z.1 i=true:=λh=>hc ((z1.2 i).1 h)
     simpa using this
    ·omega
  ·obtain⟨z1,z2,z3,z4⟩:=hz;rw[z2,show bq 3 l.length 1=((l.length-1:Nat):Int) by rw[cD ade ade];omega,ak,adh]
  ·refine⟨qc,X4,(eR 0).2 rfl,by rw[Jg,adp rfl];exact Sub.refl _,λx hx=>by rw[(eR x).1 hx];exact lq.here,λx hx=> ?_,λi hi lZ=> ?_,λm' hm' j hj=> ?_,λj hj=> ?_,λj=> ?_,?_⟩
   ·rw[adF] at hx;subst hx;exact⟨ade,ade,(eR _).2 rfl⟩
   ·left;rw[(eR i).1 lZ];exact adF.2 rfl
   ·rw[(eR j).1 hj,Jg,adp rfl];exact hm'.z
   ·rw[Jg,adq];intro e;subst e;rw[(eR 0).2 rfl] at hj;cases hj
   ·rw[Jg];split
    ·exact x_
    ·exact Sub.zero _
   ·have:fU (BG (m0,o0,[0])) l.length<=1048576*l.length:=rA _ λj _=>by
     unfold BG;dsimp only;have:=wC (show p<=16 by omega);split
     ·rw[Jg]
      first
      |omega
      |(split<;>omega)
     ·omega
    simp only[adJ];omega
  ·have:fU (BG (m0,o0,[0])) l.length<=1048576*l.length:=rA _ λj _=>by
    unfold BG;dsimp only;have:=wC (show p<=16 by omega);split
    ·rw[Jg]
     first
     |omega
     |(split<;>omega)
    ·omega
   simp only[adJ];omega
  ·rintro⟨m,o,st⟩ ⟨I1,I2,I3,I4,I5,I6,I7,I8,I9,I10,I11⟩;dsimp only at I1 I2 I3 I4 I5 I6 I7 I8 I9 I10 I11⊢
   by_cases kY:0<st.length
   ·left;obtain⟨q,hq⟩:∃q,st.length=q+1:=⟨st.length-1,ade⟩;have kD:a8 st q∈st:=by rw[bz ade];exact adT _
    obtain⟨a1,a2,a3⟩:=I6 _ kD;obtain⟨v,hv⟩:∃v:Nat,a8 st q=v:=⟨(a8 st q).toNat,ade⟩;rw[hv] at a1 a2 a3 kD;rw[adx] at a3;have H9:v<l.length:=ade;have sb:bq 3 st.length 1=(q:Int):=by rw[cD ade ade];omega
    have qf:(av q st).length=q:=by show(st.take q).length=q;rw[adY];omega
    have n_:(cU l v).length<=2:=lB _ _;have ef:pz l (v:Int)=some (cU l v):=EE H9 ade (fp (hf.at H9)).2.1;have hin':=fe v H9;rw[aD (by rw[aE];exact adf),sb,ak,adh,T.d4,adh,hv,ef,a9,adx];have hW:=λk hk=>Ux fe (w:=fv l) (P:=lj p) (L:=lj s) el0 (z0:=(m,o,av q st)) I1 I2 H9 (I5 v a3) a3 (hw v H9) I9 I10 k hk
    obtain⟨W,Lo⟩:=hW _ (adw _);have hpq:fU (BG (m,o,av q st)) l.length=fU (BG (m,o,st)) l.length:=rfl;have WL:=W.l;dsimp only at WL;refine⟨wF (m,o,av q st) v (fv l v) (cU l v) (cU l v).length,?_,⟨W.a.1,W.a.2,W.b 0 I3,(W.d 0 I3).trans I4,λx hx=> ?_,λx hx=> ?_,λi hi lZ=> ?_,λm' hm' j hj=>Lo m' hm' (I8 m' hm') j hj,W.j,W.k,ade⟩,ade⟩
    ·generalize cU l v=d at hin' n_ hW⊢;rw[aV (λk=>((k:Int),(wF (m,o,av q st) v (fv l v) d k).1,(wF (m,o,av q st) v (fv l v) d k).2.1,(wF (m,o,av q st) v (fv l v) d k).2.2)) d.length (wF (m,o,av q st) v (fv l v) d d.length) ?_ ade ?_ ?_]
     ·rfl
     ·rfl
     ·intro k hk;obtain⟨b1,b2⟩:=hin' k hk;obtain⟨U,-⟩:=hW k ade;have a82:aO (v:Int) 0=false:=by rw[aE];exact adg
      have hwl:v<(mF l l.length).length:=by rw[iD];exact H9
      have hwa:a8 (mF l l.length) v=fv l v:=Ia l H9;have UL:=U.l;dsimp only at UL
      rw[show wF (m,o,av q st) v (fv l v) d (k+1)=if a8 (wF (m,o,av q st) v (fv l v) d k).1 (a8 d k).toNat=true then
       (if Nat.land (a8 (wF (m,o,av q st) v (fv l v) d k).2.1 (a8 d k).toNat) (Nat.lor (a8 (wF (m,o,av q st) v (fv l v) d k).2.1 v) (fv l v))=a8 (wF (m,o,av q st) v (fv l v) d k).2.1 (a8 d k).toNat then wF (m,o,av q st) v (fv l v) d k
        else((wF (m,o,av q st) v (fv l v) d k).1,ae (wF (m,o,av q st) v (fv l v) d k).2.1 (a8 d k).toNat (Nat.land (a8 (wF (m,o,av q st) v (fv l v) d k).2.1 (a8 d k).toNat) (Nat.lor (a8 (wF (m,o,av q st) v (fv l v) d k).2.1 v) (fv l v))),(wF (m,o,av q st) v (fv l v) d k).2.2++[a8 d k]))
       else(ae (wF (m,o,av q st) v (fv l v) d k).1 (a8 d k).toNat true,ae (wF (m,o,av q st) v (fv l v) d k).2.1 (a8 d k).toNat (Nat.lor (a8 (wF (m,o,av q st) v (fv l v) d k).2.1 v) (fv l v)),(wF (m,o,av q st) v (fv l v) d k).2.2++[a8 d k]) from rfl]
      generalize wF (m,o,av q st) v (fv l v) d k=z at U UL⊢;obtain⟨za,zo,zs⟩:=z;obtain⟨u1,u2⟩:=U.a;dsimp only at u1 u2 UL⊢;have hvo:v<zo.length:=ade;have cap:∀{y:Option (T.LR (Int×((List Bool)×((List Nat)×(List Int)))) ((List Bool)×((List Nat)×(List Int))) ((List Bool)×((List Nat)×(List Int))))},T.bj (aJ zs.length 1) y=y:=λ{y}=>aY (by rw[ay];omega) y
      simp only[cZ,hk,ao,ads,adA,ak,a82,aeb,ae7,hvo,hwl,hwa,T.qZ,T.mV,cap,aU (show k<9223372036854775807 by omega)];have ht:(a8 d k).toNat<l.length:=ade;have eR:=λx=>dd (l:=zo) (i:=(a8 d k).toNat) (j:=(a8 d k).toNat) (x:=x) ade
      have cz:∀{ρ:Type} (f:Nat->Option ρ) (x:List Nat),x.length=l.length->T.ai x.length (a8 d k) f=f (a8 d k).toNat:=λf x hx=>bE b1 ade f
      have cb:∀{ρ:Type} (f:Nat->Option ρ) (x:List Bool),x.length=l.length->T.ai x.length (a8 d k) f=f (a8 d k).toNat:=λf x hx=>bE b1 ade f
      rw[cb _ za u1]
      by_cases hc:a8 za (a8 d k).toNat=true
      ·rw[adq (by rw[hc];decide),adp hc,cz _ zo u2,cz _ zo u2,cz _ zo u2,cz _ _ (by rw[cM];exact u2),eR,adp rfl,aA,ax]
       by_cases lh:Nat.land (a8 zo (a8 d k).toNat) (Nat.lor (a8 zo v) (fv l v))=a8 zo (a8 d k).toNat
       ·rw[adq (by rw[adm lh];decide),adp lh,lh,Sn ade];rfl
       ·rw[adp (by rw[adl lh];rfl),adq lh];rfl
      ·have K3:a8 za (a8 d k).toNat=false:=by simpa using hc
       rw[adp (by rw[K3];rfl),adq hc,cb _ za u1,cz _ zo u2];rfl
     ·simp only[ba];rfl
    ·rcases W.b' x hx with hx|⟨k,hk,rfl⟩
     ·exact I5 x hx
     ·exact lq.step _ k (I5 v a3) hk
    ·rcases W.g' x hx with hx|hx
     ·have:=I6 x (List.mem_of_mem_take hx);exact⟨this.1,this.2.1,W.b _ this.2.2⟩
     ·exact hx
    ·rcases W.h' i lZ with Co|Nj
     ·dsimp only at Co;rcases W.h i Co with Cr|Nj
      ·dsimp only at Cr;rcases I7 i hi Co with j6|j6
       ·rcases oy hq j6 with h3|h3
        ·exact Or.inl (W.g _ h3)
        ·have e:i=v:=by omega
         subst e;rcases W.f with f|f
         ·exact Or.inl f
         ·refine Or.inr λk hk=>⟨W.c k hk,?_⟩
          rw[Cr];exact f k hk
       ·refine Or.inr λk hk=>⟨W.b _ (j6 k hk).1,?_⟩
        rw[Cr];exact(W.d _ (j6 k hk).1).trans (j6 k hk).2
      ·exact Or.inl Nj
     ·exact Or.inl Nj
   ·right;have ER:st=[]:=aeh ade;subst ER;have jq:∀i,i<l.length->a8 m i=true->∀k,k<(cU l i).length->a8 m (a8 (cU l i) k).toNat=true/\Sub (a8 o (a8 (cU l i) k).toNat) (Nat.lor (a8 o i) (fv l i)):=λi hi lZ=>by
     rcases I7 i hi lZ with h1|h1
     ·cases h1
     ·exact h1
    have hP:=A2 fe n0 I1 I3 I5 λi hi lZ k hk=>(jq i hi lZ k hk).1
    refine⟨(m,o),?_,hP,I2,⟨⟨I4,λi hi k hk=>(jq i (mb fe n0 hi) ((hP.2 i).2 hi) k hk).2⟩,λm' hm' i hi=>I8 m' hm' i ((hP.2 i).2 hi)⟩,I9⟩;rw[aC (by rw[aE];exact adl (by simp))];rfl
 ·rfl
 ·intro i hi;have hl1:i<(mF l i++List.replicate (l.length-i) 0).length:=by rw[ado,adz,iD];omega
  obtain⟨t1,t2⟩:=oz (a8 l i);have hr:Ev (gg (a8 l i)).1=some (CP (gg (a8 l i)).1):=Mb ade λx hx=>mD (ok.c i hi) (Or.inl hx)
  have hwm:Ev (gg (a8 l i)).2=some (fv l i):=Mb ade λx hx=>mD (ok.c i hi) (Or.inr hx)
  have Rz:i<(mF l i++[fv l i]++List.replicate (l.length-(i+1)) 0).length:=by rw[ado,ado,adz,iD];simp;omega
  have eR:a8 (mF l i++[fv l i]++List.replicate (l.length-(i+1)) 0) i=fv l i:=by
   rw[dI (by rw[ado,iD];simp)];exact gE (iD l i)
  have a8b:Sub (Nat.lor (CP (gg (a8 l i)).1) (fv l i)) (lj s):=Sub.lub (a0m _ λx hx=>⟨(mD (ok.c i hi) (Or.inl hx)).1,hrw i hi x (Or.inl hx)⟩) (hw i hi);simp only[cZ,hi,hl1,ao,ads,adA,Af (ok.c i hi),a9,ak,cE,aeb,ae7,hr,hwm,mz (iD l i) hi,Rz,eR,T.jv,Int.natCast_nonneg,adx,T.qZ,T.ke,Sx a8b,aA,ax,aG,Bool.not_true,aU (show i<9223372036854775807 by omega)];rfl
 ·simp only[ba,ao,aep,List.replicate_zero,adP];rfl
end Go.Proofs.YtbjcjppphoppfaaGreat.M
