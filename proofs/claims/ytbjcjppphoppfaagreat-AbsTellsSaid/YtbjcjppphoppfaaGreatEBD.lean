import Derived.Test.YtbjcjppphoppfaaGreatEBC
set_option linter.all false
namespace Go.Proofs.YtbjcjppphoppfaaGreat.M
open Go.Proofs.YtbjcjppphoppfaaGreat.T hiding a8 ae av aH aw bd bM cC
theorem sx {n:Nat} {p:Nat->Bool} (h:¬(List.range n).all p=true):∃k,k<n/\p k=false/\∀j,j<k->p j=true:=by
 induction n with
 |zero=>exact absurd rfl h
 |succ n ih=>
  by_cases h1:(List.range n).all p=true
  ·have hn:p n=false:=by
    cases e:p n with
    |false=>rfl
    |true=>
     exfalso;apply h;rw[List.range_succ,List.all_append,h1];simp[e]
   exact⟨n,ade,hn,λj hj=>adE.1 h1 j (adL.2 hj)⟩
  ·obtain⟨k,h2,h3,h4⟩:=ih h1;exact⟨k,ade,h3,h4⟩
theorem yR {S E Q:Type} {f:S->Option (T.LR S E Q)} (st:Nat->S) (n:Nat) (p:Nat->Bool) (q:Q) (e:E) (h1:∀i:Nat,i<n->(∀j,j<i->p j=true)->f (st i)=if p i=true then some (.ok (st (i+1))) else some (.rt q)) (h2:(∀j,j<n->p j=true)->f (st n)=some (.ex e)):
 ∀(k i N:Nat),i+k=n->k<N->(∀j,j<i->p j=true)->T.iter f N (st i)=if(List.range' i k).all p=true then some (.ex e) else some (.rt q)
 |0,i,N+1,hi,_,hp=>by
  have hi:i=n:=ade;subst hi;show Option.bind (f (st i)) _=_;rw[h2 hp];rfl
 |k+1,i,N+1,hi,hN,hp=>by
  show Option.bind (f (st i)) (λr=>T.LR.rec (T.iter f N) (λs=>some (.ex s)) (λq=>some (.rt q)) r)=_;rw[h1 i ade hp,List.range'_succ,adZ];cases RG:p i with
  |true=>
   rw[adp rfl,adW];exact yR st n p q e h1 h2 k (i+1) N ade ade λj hj=>by
    by_cases e:j=i
    ·rw[e];exact RG
    ·exact hp j ade
  |false=>simp
 |0,_,0,_,h,_=>absurd h ade
 |_+1,_,0,_,h,_=>absurd h ade
theorem z6 {S E Q ρ:Type} {f:S->Option (T.LR S E Q)} {s:S} {kx:E->Option ρ} {kr:Q->Option ρ} (st:Nat->S) (n:Nat) (p:Nat->Bool) (q:Q) (e:E) (hs:s=st 0) (hn:n<9223372036854775808) (h1:∀i:Nat,i<n->(∀j,j<i->p j=true)->f (st i)=if p i=true then some (.ok (st (i+1))) else some (.rt q)) (h2:(∀j,j<n->p j=true)->f (st n)=some (.ex e)):
 loop S E Q f s kx kr=if(List.range n).all p=true then kx e else kr q:=by
 unfold loop;rw[hs,yR st n p q e h1 h2 n 0 9223372036854775808 ade hn (λj hj=>absurd hj (adS _)),<-List.range_eq_range'];split<;>rfl
def gF (aft:Nat->List Int->Option (List Int)) (d:Nat->List Int) (z0:FSx):Nat->FSx
 |0=>z0
 |i+1=>if a8 (gF aft d z0 i).2.1 i=true then fill (gF aft d z0 i) ((aft i (a8 (gF aft d z0 i).1 i)).getD []) (d i) (d i).length else gF aft d z0 i
def gP (aft:Nat->List Int->Option (List Int)) (d:Nat->List Int) (z0:FSx) (i:Nat):Bool:= !a8 (gF aft d z0 i).2.1 i||((aft i (a8 (gF aft d z0 i).1 i)).isSome&&(List.range (d i).length).all (pq (gF aft d z0 i) ((aft i (a8 (gF aft d z0 i).1 i)).getD []) (d i)))
structure GOk (n:Nat) (aft:Nat->List Int->Option (List Int)) (d:Nat->List Int) (z0 z:FSx) (i:Nat):Prop where
 a:z.1.length=n/\z.2.1.length=n
 b:∀j,a8 z0.2.1 j=true->a8 z.2.1 j=true/\a8 z.1 j=a8 z0.1 j
 v:∀j,a8 z.2.1 j=true->Vs d aft j (a8 z.1 j)
 e:∀j,a8 z.2.1 j=false->a8 z.1 j=[]
 q:(z.2.2.2=z0.2.2.2/\z.1=z0.1/\z.2.1=z0.2.1/\∀j,j<i->a8 z.2.1 j=true->∃r,aft j (a8 z.1 j)=some r/\∀k,k<(d j).length->a8 z.2.1 (a8 (d j) k).toNat=true/\a8 z.1 (a8 (d j) k).toNat=r)\/(z.2.2.2=true/\oH z0.2.1<oH z.2.1)
theorem Nd {n:Nat} {aft:Nat->List Int->Option (List Int)} {d:Nat->List Int} {z0:FSx} (hd:DH n d) (h1:z0.1.length=n) (h2:z0.2.1.length=n) (hv:∀j,a8 z0.2.1 j=true->Vs d aft j (a8 z0.1 j)) (hz:∀j,a8 z0.2.1 j=false->a8 z0.1 j=[]):∀i,i<=n->(∀j,j<i->gP aft d z0 j=true)->GOk n aft d z0 (gF aft d z0 i) i
 |0,_,_=>⟨⟨h1,h2⟩,λ_ h=>⟨h,rfl⟩,hv,hz,Or.inl ⟨rfl,rfl,rfl,λj hj=>absurd hj (adS _)⟩⟩
 |i+1,hi,hp=>by
  have G:=Nd hd h1 h2 hv hz i ade (λj hj=>hp j ade);have RG:=hp i ade;unfold gP at RG;unfold gF;generalize gF aft d z0 i=z at G RG⊢;obtain⟨za,zb⟩:=G.a
  by_cases hc:a8 z.2.1 i=true
  ·rw[adp hc];rw[hc,Bool.not_true,Bool.false_or,adr] at RG;obtain⟨hs,dj⟩:=RG;obtain⟨r,hr⟩:=Option.isSome_iff_exists.1 hs;rw[hr,Option.getD_some] at dj⊢;have W:=ml (r:=r) za zb (hd i ade) (d i).length (adw _);have hpa:=λ{k} hk=>OJ za zb (hd i ade) dj (k:=k) hk
   refine⟨W.a,λj hj=>⟨W.b j (G.b j hj).1,((W.t j).1 (G.b j hj).1).trans (G.b j hj).2⟩,λj hj=> ?_,λj hj=> ?_,?_⟩
   ·cases h0:a8 z.2.1 j with
    |true=>rw[(W.t j).1 h0];exact G.v j h0
    |false=>
     rw[(W.t j).2.1 h0 hj];rcases W.b' j hj with h|⟨⟨k,hk,rfl⟩,-⟩
     ·rw[h0] at h;cases h
     ·exact Vs.step i k _ r (G.v i hc) hr hk
   ·rw[(W.t j).2.2 hj];refine G.e j ?_;cases h0:a8 z.2.1 j with
    |true=>have:=W.b j h0;rw[hj] at this;cases this
    |false=>rfl
   ·rcases W.q with⟨q1,q2,q3⟩|⟨q1,q2⟩
    ·have jq:∀k,k<(d i).length->a8 z.2.1 (a8 (d i) k).toNat=true/\a8 z.1 (a8 (d i) k).toNat=r:=λk hk=>by
      have c1:=W.c k hk;have c2:=hpa hk;rw[q3] at c1;rw[q2] at c2;exact⟨c1,c2⟩
     rw[q1,q2,q3];rcases G.q with⟨r1,r2,r3,r4⟩|g
     ·refine Or.inl ⟨r1,r2,r3,λj hj RB=> ?_⟩
      by_cases e:j=i
      ·subst e;exact⟨r,hr,jq⟩
      ·exact r4 j ade RB
     ·exact Or.inr g
    ·refine Or.inr ⟨q1,?_⟩;have:=lC z0.2.1 z.2.1 ade λj hj=>(G.b j hj).1
     omega
  ·rw[adq hc];refine⟨G.a,G.b,G.v,G.e,?_⟩;rcases G.q with⟨r1,r2,r3,r4⟩|g
   ·refine Or.inl ⟨r1,r2,r3,λj hj RB=> ?_⟩
    by_cases e:j=i
    ·subst e;exact absurd RB hc
    ·exact r4 j ade RB
   ·exact Or.inr g
theorem WJ {n:Nat} {aft:Nat->List Int->Option (List Int)} {d:Nat->List Int} {z0:FSx} (hd:DH n d) (h1:z0.1.length=n) (h2:z0.2.1.length=n) (hv:∀j,a8 z0.2.1 j=true->Vs d aft j (a8 z0.1 j)) (hz:∀j,a8 z0.2.1 j=false->a8 z0.1 j=[]) (h:¬(List.range n).all (gP aft d z0)=true):¬mS d aft:=by
 obtain⟨i,hi,hp,hb⟩:=sx h;have G:=Nd hd h1 h2 hv hz i ade hb;unfold gP at hp;generalize gF aft d z0 i=z at G hp;obtain⟨za,zb⟩:=G.a;rw[ad',Bool.not_eq_false'] at hp;obtain⟨hc,hp⟩:=hp;intro hR;cases hr:aft i (a8 z.1 i) with
 |none=>exact hR.1 i _ (G.v i hc) hr
 |some r=>
  rw[hr,Option.getD_some] at hp;have hp':¬(List.range (d i).length).all (pq z r (d i))=true:=by simpa using hp
  obtain⟨k,hk,h3,h4⟩:=OK za zb (hd i hi) hp';exact h4 (hR.2 _ _ _ (G.v _ h3) (Vs.step i k _ r (G.v i hc) hr hk))
theorem VU {m:aK} {i:Nat} (hi:i<m.2.2.1.length) (p:Pre m (a8 m.2.2.1 i)):(mS (cU (a8 m.2.2.1 i).2.2.2.2.1) (eM m (a8 m.2.2.1 i))/\∃t,tq (cU (a8 m.2.2.1 i).2.2.2.2.1) (eM m (a8 m.2.2.1 i)) (a8 m.2.2.1 i).2.2.2.2.1.length t/\En m (i:Int)=some (t,NJ t (a8 m.2.2.1 i).2.2.2.2.1.length))\/(¬mS (cU (a8 m.2.2.1 i).2.2.2.2.1) (eM m (a8 m.2.2.1 i))/\En m (i:Int)=some ([],false)):=by
 have ok:=jf p.fl;obtain⟨n0,n1⟩:=ok.n;have To:=λ{j s} h=>Kn p (j:=j) (s:=s) h
 have d6:=ok.c;have qI:=p.nr;have Nv:=λ{j:Nat} (hj:j<(a8 m.2.2.1 i).2.2.2.2.1.length) {s:List Int} (hs:xL m s)=>Wg hi (x:=a8 (a8 m.2.2.1 i).2.2.2.2.1 j) p.om (d6 j hj) (qI j hj) hs
 have a7I:=λ{j:Nat} (hj:j<(a8 m.2.2.1 i).2.2.2.2.1.length)=>EA (l:=(a8 m.2.2.1 i).2.2.2.2.1) ade hj
 have hbh:∀j,qm (a8 (a8 m.2.2.1 i).2.2.2.2.1 j) (j:Int)=cU (a8 m.2.2.1 i).2.2.2.2.1 j:=λ_=>rfl
 have fe:DH (a8 m.2.2.1 i).2.2.2.2.1.length (cU (a8 m.2.2.1 i).2.2.2.2.1):=λi hi k hk=>ok.b i hi k hk
 have n_:∀j,(cU (a8 m.2.2.1 i).2.2.2.2.1 j).length<=2:=λj=>lB _ _
 have J8:∀j s,me m (a8 m.2.2.1 i) (a8 (a8 m.2.2.1 i).2.2.2.2.1 j) s=eM m (a8 m.2.2.1 i) j s:=λ_ _=>rfl
 have yI:=λ{j:Nat} (hj:j<(a8 m.2.2.1 i).2.2.2.2.1.length) {s r:List Int} (hs:xL m s) hr=>zU (r:=r) p.om p.ok (d6 j hj) (qI j hj) hs hr
 have hb:∀{ρ:Type} {k:Nat->Option ρ},T.b_ 1073741824 ((a8 m.2.2.1 i).2.2.2.2.1.length:Int) k=k (a8 m.2.2.1 i).2.2.2.2.1.length:=by
  intro ρ k;rw[T.d4,adh,adx]
 have e0:(bd (a8 m.2.2.1 i).2.2.2.2.1.length false).length=(a8 m.2.2.1 i).2.2.2.2.1.length:=adz;have e1:(bd (a8 m.2.2.1 i).2.2.2.2.1.length ([]:List Int)).length=(a8 m.2.2.1 i).2.2.2.2.1.length:=adz;have e1a:∀j,a8 (bd (a8 m.2.2.1 i).2.2.2.2.1.length ([]:List Int)) j=[]:=λj=>by
  by_cases hj:j<(a8 m.2.2.1 i).2.2.2.2.1.length
  ·rw[bz (by rw[e1];exact hj)];simp[bd]
  ·rw[dJ (by rw[e1];omega)];rfl
 obtain⟨qc,eR,nZ⟩:=wD n0;unfold En;rw[ak,adp hi,hb,hb,fX _ (by rw[e0];exact n0)];generalize ae (bd (a8 m.2.2.1 i).2.2.2.2.1.length false) 0 true=m0 at qc eR nZ⊢;clear d6 qI;generalize PN:a8 m.2.2.1 i=f at*;generalize a0c:f.2.2.2.2.1=code at*;generalize hn:code.length=n at*;have key:=Hl (S:=Bool×(List (List Int)×List Bool)) (E:=List (List Int)) (Q:=List (List Int)×Bool) (ρ:=List (List Int)×Bool)
  (f:=(λv4=>(af v4.1 (λ_=>(loop (Bool×(Int×((List (List Int))×(List Bool)))) (Bool×((List (List Int))×(List Bool))) ((List (List Int))×Bool) (λv5=>(af (aO v5.2.1 (n:Int)) (λ_=>(ai v5.2.2.2.length v5.2.1 (λv6=>(af (an (a8 v5.2.2.2 v6)) (λ_=>(bh (v5.1,(ab 3 v5.2.1 1),v5.2.2.1,v5.2.2.2))) λ_=>(ai n v5.2.1 (λv7=>(ai v5.2.2.1.length v5.2.1 (λv8=>(bind (I_ m (i:Int) (a8 code v7) (a8 v5.2.2.1 v8)) (λv9=>(af (an v9.2) (λ_=>(bT ([],false))) λ_=>(bind (xT code v5.2.1) (λv10=>(loop (Bool×(Int×((List (List Int))×(List Bool)))) (Bool×((List (List Int))×(List Bool))) ((List (List Int))×Bool) (λv11=>(af (aO v11.2.1 v10.length) (λ_=>(ai v10.length v11.2.1 (λv12=>(join Bool (ai v11.2.2.2.length (a8 v10 v12) (λv13=>(af (a8 v11.2.2.2 v13) (λ_=>(ai v11.2.2.1.length (a8 v10 v12) (λv14=>(bind (EB (a8 v11.2.2.1 v14) v9.1) (λv15=>(some (an v15))))))) λ_=>(some false)))) (λv13=>(af v13 (λ_=>(bT ([],false))) λ_=>(ai v11.2.2.2.length (a8 v10 v12) (λv14=>(af (an (a8 v11.2.2.2 v14)) (λ_=>(ai v11.2.2.1.length (a8 v10 v12) (λv15=>(ai v11.2.2.2.length (a8 v10 v12) (λv16=>(bh (true,(ab 3 v11.2.1 1),(ae v11.2.2.1 v15 v9.1),(ae v11.2.2.2 v16 true)))))))) λ_=>(bh (v11.1,(ab 3 v11.2.1 1),v11.2.2.1,v11.2.2.2))))))))))) λ_=>(lex (v11.1,v11.2.2.1,v11.2.2.2)))) (v5.1,0,v5.2.2.1,v5.2.2.2) (λv11=>(bh (v11.1,(ab 3 v5.2.1 1),v11.2.1,v11.2.2))) (λv11=>(bT (v11.1,v11.2))))))))))))))))) λ_=>(lex (v5.1,v5.2.2.1,v5.2.2.2)))) (false,0,v4.2.1,v4.2.2) (λv5=>(bh (v5.1,v5.2.1,v5.2.2))) (λv5=>(bT (v5.1,v5.2))))) λ_=>(lex v4.2.1))))
  (s:=(true,(bd n []),m0))
  (kx:=(λv4=>(ai v4.length (bq 3 (n:Int) 1) (λv5=>(some (v4,(bm ((a8 v4 v5).length:Int) 0)))))))
  (kr:=(λv4=>(some (v4.1,v4.2))))
  (λz=>z.2.1.length=n/\z.2.2.length=n/\a8 z.2.2 0=true/\a8 z.2.1 0=[]/\(∀x,a8 z.2.2 x=true->Vs (cU code) (eM m f) x (a8 z.2.1 x))/\(∀x,a8 z.2.2 x=false->a8 z.2.1 x=[])/\
    (z.1=false->∀j,j<n->a8 z.2.2 j=true->∃r,eM m f j (a8 z.2.1 j)=some r/\∀k,k<(cU code j).length->a8 z.2.2 (a8 (cU code j) k).toNat=true/\a8 z.2.1 (a8 (cU code j) k).toNat=r))
  (λt=>mS (cU code) (eM m f)/\tq (cU code) (eM m f) n t) (λq=>¬mS (cU code) (eM m f)/\q=([],false)) (λz=>2*(n-oH z.2.2)+(if z.1=true then 1 else 0)) ?_ ?_ ?_
 ·rcases key with⟨t,⟨hR,hT⟩,hk⟩|⟨q,⟨hR,rfl⟩,hk⟩
  ·left;refine⟨hR,t,hT,hk.trans ?_⟩;have qf:=hT.1;rw[qf,show bq 3 (n:Int) 1=((n-1:Nat):Int) by rw[cD ade ade];omega,ak,adh,aG];rfl
  ·right;exact⟨hR,hk⟩
 ·exact⟨e1,qc,(eR 0).2 rfl,e1a 0,λx hx=>by rw[(eR x).1 hx,e1a];exact Vs.here,λx _=>e1a x,λh=>by cases h⟩
 ·simp only[adA];omega
 ·rintro⟨c,tab,met⟩ ⟨I1,I2,I3,I4,I5,I6,I7⟩;dsimp only at I1 I2 I3 I4 I5 I6 I7⊢;cases c with
  |false=>
   right;left;exact⟨tab,rfl,zN fe n0 I1 I3 I4 I5 I6 (I7 rfl)⟩
  |true=>
   rw[aD rfl];have hG:=λj hj hp=>Nd (z0:=(tab,met,[],false)) (aft:=eM m f) fe I1 I2 I5 I6 j hj hp
   have oN:=λh=>WJ (z0:=(tab,met,[],false)) (aft:=eM m f) fe I1 I2 I5 I6 h
   have a80:∀(kx:Bool×(List (List Int)×List Bool)->Option (T.LR (Bool×(List (List Int)×List Bool)) (List (List Int)) (List (List Int)×Bool))) (kr:List (List Int)×Bool->Option (T.LR (Bool×(List (List Int)×List Bool)) (List (List Int)) (List (List Int)×Bool))),
    (loop (Bool×(Int×((List (List Int))×(List Bool)))) (Bool×((List (List Int))×(List Bool))) ((List (List Int))×Bool) (λv5=>(af (aO v5.2.1 (n:Int)) (λ_=>(ai v5.2.2.2.length v5.2.1 (λv6=>(af (an (a8 v5.2.2.2 v6)) (λ_=>(bh (v5.1,(ab 3 v5.2.1 1),v5.2.2.1,v5.2.2.2))) λ_=>(ai n v5.2.1 (λv7=>(ai v5.2.2.1.length v5.2.1 (λv8=>(bind (I_ m (i:Int) (a8 code v7) (a8 v5.2.2.1 v8)) (λv9=>(af (an v9.2) (λ_=>(bT ([],false))) λ_=>(bind (xT code v5.2.1) (λv10=>(loop (Bool×(Int×((List (List Int))×(List Bool)))) (Bool×((List (List Int))×(List Bool))) ((List (List Int))×Bool) (λv11=>(af (aO v11.2.1 v10.length) (λ_=>(ai v10.length v11.2.1 (λv12=>(join Bool (ai v11.2.2.2.length (a8 v10 v12) (λv13=>(af (a8 v11.2.2.2 v13) (λ_=>(ai v11.2.2.1.length (a8 v10 v12) (λv14=>(bind (EB (a8 v11.2.2.1 v14) v9.1) (λv15=>(some (an v15))))))) λ_=>(some false)))) (λv13=>(af v13 (λ_=>(bT ([],false))) λ_=>(ai v11.2.2.2.length (a8 v10 v12) (λv14=>(af (an (a8 v11.2.2.2 v14)) (λ_=>(ai v11.2.2.1.length (a8 v10 v12) (λv15=>(ai v11.2.2.2.length (a8 v10 v12) (λv16=>(bh (true,(ab 3 v11.2.1 1),(ae v11.2.2.1 v15 v9.1),(ae v11.2.2.2 v16 true)))))))) λ_=>(bh (v11.1,(ab 3 v11.2.1 1),v11.2.2.1,v11.2.2.2))))))))))) λ_=>(lex (v11.1,v11.2.2.1,v11.2.2.2)))) (v5.1,0,v5.2.2.1,v5.2.2.2) (λv11=>(bh (v11.1,(ab 3 v5.2.1 1),v11.2.1,v11.2.2))) (λv11=>(bT (v11.1,v11.2))))))))))))))))) λ_=>(lex (v5.1,v5.2.2.1,v5.2.2.2)))) (false,0,tab,met) kx kr)=
    if(List.range n).all (gP (eM m f) (cU code) (tab,met,[],false))=true then kx ((gF (eM m f) (cU code) (tab,met,[],false) n).2.2.2,(gF (eM m f) (cU code) (tab,met,[],false) n).1,(gF (eM m f) (cU code) (tab,met,[],false) n).2.1) else kr ([],false):=by
    intro kx kr;rw[z6 (λj=>((gF (eM m f) (cU code) (tab,met,[],false) j).2.2.2,(j:Int),(gF (eM m f) (cU code) (tab,met,[],false) j).1,(gF (eM m f) (cU code) (tab,met,[],false) j).2.1)) n (gP (eM m f) (cU code) (tab,met,[],false)) ([],false) ((gF (eM m f) (cU code) (tab,met,[],false) n).2.2.2,(gF (eM m f) (cU code) (tab,met,[],false) n).1,(gF (eM m f) (cU code) (tab,met,[],false) n).2.1) ?_ ade ?_ ?_]
    ·rfl
    ·intro j hj hp;have G:=hG j ade hp;unfold gP;rw[show gF (eM m f) (cU code) (tab,met,[],false) (j+1)=if a8 (gF (eM m f) (cU code) (tab,met,[],false) j).2.1 j=true then fill (gF (eM m f) (cU code) (tab,met,[],false) j) ((eM m f j (a8 (gF (eM m f) (cU code) (tab,met,[],false) j).1 j)).getD []) (cU code j) (cU code j).length else gF (eM m f) (cU code) (tab,met,[],false) j from rfl];generalize gF (eM m f) (cU code) (tab,met,[],false) j=z at G⊢;obtain⟨zt,zm,zs,zc⟩:=z;obtain⟨g1,g2⟩:=G.a;have gv:=G.v;have ge:=G.e;dsimp only at g1 g2 gv ge⊢;have hjm:j<zm.length:=ade;have hjt:j<zt.length:=ade;simp only[cZ,hj,hjm,hjt,ao,ads,adA,ak,aU (show j<9223372036854775807 by omega)]
     by_cases hc:a8 zm j=true
     ·rw[adq (by rw[hc];decide),hc,adp rfl,Bool.not_true,Bool.false_or];obtain⟨o,es,eo⟩:=Nv hj (To (gv j hc));rw[J8] at es eo;rw[es,a9];cases hr:eM m f j (a8 zt j) with
      |none=>rw[adp (show an (o,(none:Option (List Int)).isSome).2=true from rfl)];rfl
      |some r=>
       have eor:=eo r hr;subst eor;rw[adq (show¬an (o,(some o).isSome).2=true from Bool.false_ne_true),a7I hj,a9,hbh,Option.getD_some,Option.isSome_some,adW];have hin':=fe j hj;have hll':=n_ j;have hoL:o.length<=512:=(yI hj (To (gv j hc)) ((J8 j _).trans hr)).2;have hW:=λk hk=>ml (z0:=(zt,zm,zs,zc)) (r:=o) g1 g2 hin' k hk
       generalize cU code j=d at hin' hll' hW⊢;rw[fZ (λk=>((fill (zt,zm,zs,zc) o d k).2.2.2,(k:Int),(fill (zt,zm,zs,zc) o d k).1,(fill (zt,zm,zs,zc) o d k).2.1)) d.length (pq (zt,zm,zs,zc) o d) ([],false) ((fill (zt,zm,zs,zc) o d d.length).2.2.2,(fill (zt,zm,zs,zc) o d d.length).1,(fill (zt,zm,zs,zc) o d d.length).2.1) ?_ ade ?_ ?_]
       ·rfl
       ·rfl
       ·intro k hk;obtain⟨b1,b2⟩:=hin' k hk;have U:=hW k ade;unfold pq;rw[show fill (zt,zm,zs,zc) o d (k+1)=if a8 (fill (zt,zm,zs,zc) o d k).2.1 (a8 d k).toNat=true then fill (zt,zm,zs,zc) o d k
         else(ae (fill (zt,zm,zs,zc) o d k).1 (a8 d k).toNat o,ae (fill (zt,zm,zs,zc) o d k).2.1 (a8 d k).toNat true,(fill (zt,zm,zs,zc) o d k).2.2.1++[a8 d k],true) from rfl]
        generalize fill (zt,zm,zs,zc) o d k=y at U⊢;obtain⟨ya,ym,ys,yc⟩:=y;obtain⟨u1,u2⟩:=U.a;have ut:=U.t;dsimp only at u1 u2 ut⊢;have hlen:(a8 ya (a8 d k).toNat).length<=1000000:=by
         cases h0:a8 zm (a8 d k).toNat with
         |true=>
          rw[(ut _).1 h0];have:=(To (gv _ h0)).2;omega
         |false=>
          cases h1:a8 ym (a8 d k).toNat with
          |true=>rw[(ut _).2.1 h0 h1];omega
          |false=>rw[(ut _).2.2 h1,ge _ h0];simp
        simp only[cZ,hk,ads,adA,ak,aU (show k<9223372036854775807 by omega)];have cm:∀{ρ:Type} (f:Nat->Option ρ),T.ai ym.length (a8 d k) f=f (a8 d k).toNat:=λf=>bE b1 ade f
        have ct:∀{ρ:Type} (f:Nat->Option ρ),T.ai ya.length (a8 d k) f=f (a8 d k).toNat:=λf=>bE b1 ade f
        rw[cm,cm,ct,ct]
        by_cases lh:a8 ym (a8 d k).toNat=true
        ·rw[lh,adp rfl,EC hlen,a9,join_some,adp rfl,Bool.not_true,Bool.false_or]
         by_cases he:a8 ya (a8 d k).toNat=o
         ·rw[adq (by rw[adm he];decide),adp (adm he),adq (by decide)];rfl
         ·rw[adp (by rw[adl he];rfl),adq (by simpa using he)];rfl
        ·have K3:a8 ym (a8 d k).toNat=false:=by simpa using lh
         rw[K3,adq (by decide),join_some,adq (by decide),adp (show an false=true from rfl),cm,adp (by simp),adq (by decide)];rfl
       ·simp only[ba];rfl
     ·have K3:a8 zm j=false:=by simpa using hc
      rw[K3,adp (show an false=true from rfl),adp (by simp),adq (by decide)];rfl
    ·intro _;simp only[ba,ao];rfl
   rw[a80]
   by_cases dj:(List.range n).all (gP (eM m f) (cU code) (tab,met,[],false))=true
   ·left;rw[adp dj];have G:=hG n (adw _) λj hj=>adE.1 dj j (adL.2 hj)
    refine⟨_,rfl,⟨G.a.1,G.a.2,(G.b 0 I3).1,(G.b 0 I3).2.trans I4,G.v,G.e,λmn=> ?_⟩,?_⟩
    ·rcases G.q with⟨r1,r2,r3,r4⟩|⟨r1,r2⟩
     ·exact r4
     ·dsimp only at mn;rw[r1] at mn;cases mn
    ·have:=kR (gF (eM m f) (cU code) (tab,met,[],false) n).2.1;have hlen:=G.a.2;rcases G.q with⟨r1,r2,r3,r4⟩|⟨r1,r2⟩
     ·rw[r1,r3];simp
     ·rw[r1];dsimp only at r2;simp only[adA];omega
   ·right;right;rw[adq dj];exact⟨([],false),rfl,oN dj,rfl⟩
def fB (p:Nat->Bool):Nat->Nat
 |0=>0
 |n+1=>if(List.range n).all p=true then n else fB p n
theorem GW {p:Nat->Bool}:∀{n i:Nat},i<n->(∀j,j<i->p j=true)->p i=false->fB p n=i
 |n+1,i,hi,hp,hb=>by
  unfold fB
  by_cases e:i=n
  ·subst e;rw[adp];rw[adE];exactλj hj=>hp j (adL.1 hj)
  ·rw[adq]
   ·exact GW ade hp hb
   ·intro h;have:=adE.1 h i (adL.2 ade);rw[hb] at this;cases this
theorem tE {S E Q:Type} {f:S->Option (T.LR S E Q)} (st:Nat->S) (n:Nat) (p:Nat->Bool) (q:Nat->Q) (e:E) (h1:∀i:Nat,i<n->(∀j,j<i->p j=true)->f (st i)=if p i=true then some (.ok (st (i+1))) else some (.rt (q i))) (h2:(∀j,j<n->p j=true)->f (st n)=some (.ex e)):
 ∀(k i N:Nat),i+k=n->k<N->(∀j,j<i->p j=true)->T.iter f N (st i)=if(List.range' i k).all p=true then some (.ex e) else some (.rt (q (fB p n)))
 |0,i,N+1,hi,_,hp=>by
  have hi:i=n:=ade;subst hi;show Option.bind (f (st i)) _=_;rw[h2 hp];rfl
 |k+1,i,N+1,hi,hN,hp=>by
  show Option.bind (f (st i)) (λr=>T.LR.rec (T.iter f N) (λs=>some (.ex s)) (λq=>some (.rt q)) r)=_;rw[h1 i ade hp,List.range'_succ,adZ];cases RG:p i with
  |true=>
   rw[adp rfl,adW];exact tE st n p q e h1 h2 k (i+1) N ade ade λj hj=>by
    by_cases e:j=i
    ·rw[e];exact RG
    ·exact hp j ade
  |false=>
   rw[GW ade hp RG];simp
 |0,_,0,_,h,_=>absurd h ade
 |_+1,_,0,_,h,_=>absurd h ade
theorem bS {S E Q ρ:Type} {f:S->Option (T.LR S E Q)} {s:S} {kx:E->Option ρ} {kr:Q->Option ρ} (st:Nat->S) (n:Nat) (p:Nat->Bool) (q:Nat->Q) (e:E) (hs:s=st 0) (hn:n<9223372036854775808) (h1:∀i:Nat,i<n->(∀j,j<i->p j=true)->f (st i)=if p i=true then some (.ok (st (i+1))) else some (.rt (q i))) (h2:(∀j,j<n->p j=true)->f (st n)=some (.ex e)):
 loop S E Q f s kx kr=if(List.range n).all p=true then kx e else kr (q (fB p n)):=by
 unfold loop;rw[hs,tE st n p q e h1 h2 n 0 9223372036854775808 ade hn (λj hj=>absurd hj (adS _)),<-List.range_eq_range'];split<;>rfl
theorem Iz {α E Q ρ:Type} [Zr α] {f:Int×List α->Option (T.LR (Int×List α) (List α) Q)} {kx:List α->Option ρ} {kr:Q->Option ρ} (l:List α) (hl:l.length<9223372036854775808) (h1:∀i,i<l.length->f ((i:Int),l.take i)=some (.ok (((i+1:Nat):Int),l.take i++[a8 l i]))) (h2:f ((l.length:Int),l)=some (.ex l)):loop (Int×List α) (List α) Q f (0,[]) kx kr=kx l:=by
 rw[aV (λi=>((i:Int),l.take i)) l.length l ?_ hl ?_ ?_]
 ·rfl
 ·intro i hi;rw[h1 i hi,bz hi,List.take_succ_eq_append_getElem hi]
 ·rw[List.take_length];exact h2
theorem Z9 {l:List aT} (hf:Fit (.sl ca) l):f27 l=some l:=by
 have hl:=hf.len;unfold f27;refine(Iz (E:=List aT) l ade (λi hi=> ?_) ?_).trans rfl
 ·have hx:=(hf.at hi).2.2.2.1.len;have ht:(l.take i).length<=5000:=by rw[adY];omega
  simp only[cZ,hi,ao,ads,adA,ak,aU (show i<9223372036854775807 by omega)];rw[aY (by rw[ay];omega),aY (by rw[ay];omega)];rfl
 ·simp only[ba,ao];rfl
theorem SV {m:aK} (hf:Fit bJ m):Z3 m=some m:=by
 obtain⟨h1,h2,h3,-⟩:=hf;have l2:=h2.len;have l3:=h3.len;unfold Z3;rw[Z9 h1,a9,aY (by rw[ay];omega)];rw[aV (λi=>((i:Int),m.1,m.2.1,m.2.2.1.take i)) m.2.2.1.length (m.1,m.2.1,m.2.2.1) ?_ ade ?_ ?_]
 ·rfl
 ·intro i hi;obtain⟨-,-,-,g4,g5,g6,g7,-⟩:=h3.at hi;have b4:=g4.len;have b5:=g5.len;have b6:=g6.len;have b7:=g7.len;have ht:(m.2.2.1.take i).length<=5000:=by rw[adY];omega
  simp only[cZ,hi,ao,ads,adA,ak,aU (show i<9223372036854775807 by omega)];rw[aY (by rw[ay];omega),aY (by rw[ay];omega),aY (by rw[ay];omega),aY (by rw[ay];omega),aY (by rw[ay];omega)];rw[List.take_succ_eq_append_getElem hi,<-bz hi];rfl
 ·simp only[ba,ao,List.take_length];rfl
theorem lT {α:Type} [Zr α] {e:α->α->Bool} {l k:List α} (hl:l.length<9223372036854775807):(af (an (bm l.length k.length)) (λ_=>(some false)) λ_=>(loop Int Unit Bool (λv0=>(af (aO v0 l.length) (λ_=>(ai l.length v0 (λv1=>(ai k.length v0 (λv2=>(af (an (e (a8 l v1) (a8 k v2))) (λ_=>(bT false)) λ_=>(bh (ab 3 v0 1)))))))) λ_=>(lex ()))) 0 (λ_=>(some true)) (λv0=>(some v0))))=some (decide (l.length=k.length)&&(List.range l.length).all λi=>e (a8 l i) (a8 k i)):=by
 by_cases h:l.length=k.length
 ·rw[aC (by rw[aA,aG,adf];rfl),adm h,adW];rw[bA l.length (λi=>e (a8 l i) (a8 k i)) false () ade ?_ ?_]
  ·split
   ·rename_i h;rw[h]
   ·rename_i h;rw[Bool.not_eq_true] at h;rw[h]
  ·intro i hi;have hk:i<k.length:=ade;simp only[cZ,hi,hk,ao,ads,adA,ak,aA,bh,bT,aU (show i<9223372036854775807 by omega)];cases e (a8 l i) (a8 k i)<;>rfl
  ·rw[ba];rfl
 ·rw[aD (by rw[aA,aG,adg];rfl),adl h];rfl
noncomputable def rj (l k:List dh):Bool:=decide (l.length=k.length)&&(List.range l.length).all λi=>BZ (a8 l i) (a8 k i)
theorem Lc {l k:List dh} (hl:l.length<=1000000):II l k=some (rj l k):=lT (e:=BZ) ade
theorem Te {l k:List dh} (hl:l.length<=1000000):f84 l k=some (rj l k):=lT (e:=BZ) ade
theorem Qg (x:cy):KM x x=true:=by
 show(A7 x.1 x.1&&(bm x.2.1 x.2.1&&true))=_;rw[bc,aG];simp
theorem Ce {l:List cy} (hl:l.length<=1000000):ZO l l=some true:=by
 unfold ZO;rw[lT ade];simp only[Qg];simp
theorem N0 {l:List aX} (hl:l.length<=1000000):f83 l l=some true:=by
 unfold f83;rw[lT ade];simp only[FZ];simp
theorem T5 {f:bY} (hf:Fit iE f) {s v:List dh} (hs:s.length<=1000000) (hv:v.length<=1000000):Yd (f.1,f.2.1,f.2.2.1,f.2.2.2.1,f.2.2.2.2.1,s,v,()) f=some (rj s f.2.2.2.2.2.1&&rj v f.2.2.2.2.2.2.1):=by
 obtain⟨-,-,-,g4,g5,g6,g7,-⟩:=hf;have b4:=g4.len;have b5:=g5.len;unfold Yd;dsimp only;rw[aD (by rw[bc];simp),aD (by rw[aG];simp),aD (by rw[aG];simp),Ce ade,a9,aD rfl,N0 ade,a9,aD rfl,Te hs,a9,Te hv,a9,bX,join_some]
theorem Rk {l:List aX} (h:je l≠0):je l=8:=by
 revert h;unfold je;split
 ·intro _;rfl
 ·split
  ·intro h;exact absurd rfl h
  ·intro _;rfl
theorem Ls {l:List aX} (hf:Fit (.sl cK) l) (h0:je l≠0):IM l=some ([],8):=by
 unfold IM;rw[Ag (by have:=hf.len;omega),a9,aD (bG h0),Rk h0]
def uk (m:aK) (f:bY) (R:Bool) (j:Nat):Int:=if fA m f (a8 f.2.2.2.2.1 j)=true then(if R=true then(if XX m f (a8 f.2.2.2.2.1 j)=true then 0 else 30) else 6) else 16
theorem VT {m:aK} {i:Nat} (hi:i<m.2.2.1.length) (hm:oD m) {j:Nat} (hj:j<(a8 m.2.2.1 i).2.2.2.2.1.length) (R:Bool):C6 m (i:Int) (j:Int) R=some (uk m (a8 m.2.2.1 i) R j):=by
 have d6:=(hm.g i hi).o j hj;unfold C6 uk;rw[ak,adp hi,ak,adp hj,Wd hi d6,a9];cases hn:fA m (a8 m.2.2.1 i) (a8 (a8 m.2.2.1 i).2.2.2.2.1 j) with
 |false=>rfl
 |true=>
  rw[aC (c:=an true) rfl,adp rfl];cases R with
  |false=>rfl
  |true=>
   rw[aC (c:=an true) rfl,adp rfl,We hi hm d6 hn,a9];cases XX m (a8 m.2.2.1 i) (a8 (a8 m.2.2.1 i).2.2.2.2.1 j)<;>rfl
def NO (l:List aX) (o:List Nat) (j:Nat):Bool:=(List.range (gg (a8 l j)).1.length).all λk=>decide (a8 o j/2^(a8 (gg (a8 l j)).1 k).toNat %2=1)
theorem and_1 (n:Nat):Nat.land n 1=n %2:=Nat.and_one_is_mod n
theorem SA {m:aK} (hm:oD m) {t:List (List Int)} (hl:t.length<=5000) (ht:∀j,j<t.length->xL m (a8 t j)) (K:List Nat->Option bY) (R:bY->Option bY):
 (loop (Int×(List Nat)) (List Nat) bY (λv3=>(af (aO v3.1 t.length) (λ_=>(ai t.length v3.1 (λv4=>(bind (C8 m (a8 t v4)) (λv5=>(bj (aJ v3.2.length 1) (bh ((ab 3 v3.1 1),(aw v3.2 [(bF 7 v5)]))))))))) λ_=>(lex v3.2))) (0,[]) K R)=K (Ds m t t.length):=by
 rw[aV (λk=>((k:Int),Ds m t k)) t.length (Ds m t t.length) ?_ ade ?_ ?_]
 ·rfl
 ·intro k hk;have yI:=ht k hk;have hb:=nU hm yI.1 _ (adw _);have hlen:=yI.2;have ecv:bF 7 (mg m (a8 t k) (a8 t k).length)=(mg m (a8 t k) (a8 t k).length).toNat:=by rw[lV];omega
  simp only[cZ,hk,ao,ads,adA,ak,LX hm yI.1 ade,a9,ecv,aU (show k<9223372036854775807 by omega)];rw[aY (by rw[ay,rG];omega)];rfl
 ·simp only[ba,ao];rfl
theorem Xi {m:aK} (hf:Fit bJ m) (hm:oD m) {i:Nat} (hi:i<m.2.2.1.length):∃(a e:Int) (s v:List dh),Lb m (i:Int)=some (s,v,a,e,())/\QA m (i:Int)=some (a,e)/\(e=0->a=0/\s.length<=1000/\v.length<=1000/\Lk m (i:Int)=some ((a8 m.2.2.1 i).1,(a8 m.2.2.1 i).2.1,(a8 m.2.2.1 i).2.2.1,(a8 m.2.2.1 i).2.2.2.1,(a8 m.2.2.1 i).2.2.2.2.1,s,v,())):=by
 have ff:=hf.2.2.1.at hi;have ok:=hm.g i hi;have ein:∀{j:Nat} (hj:j<(a8 m.2.2.1 i).2.2.2.2.1.length) (R:Bool),C6 m (i:Int) (j:Int) R=some (uk m (a8 m.2.2.1 i) R j):=λhj R=>VT hi hm hj R
 have escr:=λp=>VU hi p
 have etab:Lk m (i:Int)=(bind (En m (i:Int)) (λv2=>(loop (Int×(List Nat)) (List Nat) bY (λv3=>(af (aO v3.1 v2.1.length) (λ_=>(ai v2.1.length v3.1 (λv4=>(bind (C8 m (a8 v2.1 v4)) (λv5=>(bj (aJ v3.2.length 1) (bh ((ab 3 v3.1 1),(aw v3.2 [(bF 7 v5)]))))))))) λ_=>(lex v3.2))) (0,[]) (λv3=>(bind (Ep v3) (λv4=>(bind (IT (a8 m.2.2.1 i).2.2.2.2.1 (a8 m.2.2.1 i).2.1 ((a8 m.2.2.1 i).2.2.2.1.length:Int)) (λv5=>(bind (Ep v5) (λv6=>(some ((a8 m.2.2.1 i).1,((a8 m.2.2.1 i).2.1,((a8 m.2.2.1 i).2.2.1,((a8 m.2.2.1 i).2.2.2.1,((a8 m.2.2.1 i).2.2.2.2.1,(v4,(v6,(a8 m.2.2.1 i).2.2.2.2.2.2.2))))))))))))))) (λv3=>none)))):=by
  unfold Lk;rw[SV hf,a9,ak,adp hi]
 unfold Lb QA;rw[etab,ak,adp hi,ak,adp hi];clear etab;generalize PN:a8 m.2.2.1 i=f at*;have f5:=ff.2.2.2.2.1;have jq:=ok.c;have Tt:=ok.s;have hp:=ok.p;have hr:=ok.r;rw[VR f5,a9]
 by_cases h0:je f.2.2.2.2.1=0
 ·have okc:=jf h0;obtain⟨dC,qH,e1⟩:=VD f5 h0;obtain⟨led',hled',e2⟩:=LW h0;have:=UC qH hled';subst this;have n_:=qH.1;rw[e1,a9,aC cE,aC (cQ h0),e2,a9];generalize hR:(λj:Nat=>a8 dC j||decide (j=f.2.2.2.2.1.length-1))=R;have hRj:∀j,R j=(a8 dC j||decide (j=f.2.2.2.2.1.length-1)):=λj=>by rw[<-hR]
  have b1:(af (bm (i:Int) 0) (λ_=>(af (aO 0 f.2.1) (λ_=>(some true)) λ_=>(some (cB 0 f.2.2.1)))) λ_=>(some false))=some (decide ((i:Int)=0)&&(decide (0<f.2.1)||decide (0<=f.2.2.1))):=by
   simp only[aE,aN,aG,bR,bX]
  have b2:(af (bm (i:Int) 0) (λ_=>(af (an (bm f.2.1 0)) (λ_=>(some true)) λ_=>(some (an (bm f.2.2.1 (-1)))))) λ_=>(some false))=some (decide ((i:Int)=0)&&(decide (0<f.2.1)||decide (0<=f.2.2.1))):=by
   simp only[aA,aG,bR,bX];refine congrArg some ?_;congr 2
   ·rw[ae8,adn,adj,adk];omega
   ·rw[ae8,adn,adj,adk];omega
  rw[b1,b2,join_some,join_some];cases(decide ((i:Int)=0)&&(decide (0<f.2.1)||decide (0<=f.2.2.1))) with
  |true=>exact⟨-1,30,[],[],rfl,rfl,λh=>absurd h (by decide)⟩
  |false=>
   rw[aC rfl,aC rfl];rw[bS (λj=>((j:Int),0,0,[],[])) f.2.2.2.2.1.length (λj=>decide (uk m f (R j) j=0)) (λj=>([],[],(j:Int),uk m f (R j) j,())) (0,0,[],[]) ?_ ade ?_ ?_];rotate_left
   ·rfl
   ·intro j hj _;have d6:=ok.o j hj;have hj1:j<(ae dC (f.2.2.2.2.1.length-1) true).length:=by rw[cM,n_];exact hj
    have eR:a8 (ae dC (f.2.2.2.2.1.length-1) true) j=R j:=by
     rw[dd (by rw[n_];omega),hRj]
     by_cases e:f.2.2.2.2.1.length-1=j
     ·rw[adp e,adm e.symm];simp
     ·rw[adq e,adl λh=>e h.symm];simp
    simp only[cZ,hj,hj1,eR,ao,ads,adA,ak,VE d6,a9,aU (show j<9223372036854775807 by omega)];unfold uk;cases hn:fA m f (a8 f.2.2.2.2.1 j) with
    |false=>rw[adp (bG (by decide)),adq (by simp)];rfl
    |true=>
     simp only[adA];rw[adq (by rw[cE];decide)];cases R j with
     |false=>rfl
     |true=>
      rw[adq (by decide),VF ok hm d6 hn,a9];cases XX m f (a8 f.2.2.2.2.1 j)<;>rfl
   ·intro _;rw[ba];rfl
   rw[bS (λj=>(j:Int)) f.2.2.2.2.1.length (λj=>decide (uk m f (R j) j=0)) (λj=>((j:Int),uk m f (R j) j)) () ?_ ade ?_ ?_];rotate_left
   ·rfl
   ·intro j hj _;have nq:j<dC.length:=ade;have sb:bq 3 f.2.2.2.2.1.length 1=((f.2.2.2.2.1.length-1:Nat):Int):=by rw[cD ade ade];omega
    have ei:bm (j:Int) ((f.2.2.2.2.1.length-1:Nat):Int)=decide (j=f.2.2.2.2.1.length-1):=by rw[aG];congr 1;rw[eq_iff_iff];omega
    have uJ:(if a8 dC j=true then bind (C6 m (i:Int) (j:Int) true) (λv6=>some v6) else bind (C6 m (i:Int) (j:Int) (bm (j:Int) (bq 3 f.2.2.2.2.1.length 1))) (λv6=>some v6))=some (uk m f (R j) j):=by
     rw[hRj,sb,ei,ein hj,ein hj];cases a8 dC j<;>rfl
    simp only[cZ,hj,nq,ao,ads,adA,ak,uJ,join_some,aU (show j<9223372036854775807 by omega)]
    by_cases hz:uk m f (R j) j=0
    ·rw[adq (by rw[cQ hz];decide),adp (adm hz)];rfl
    ·rw[adp (bG hz),adq (by simpa using hz)];rfl
   ·intro _;rw[ba];rfl
   by_cases dj:(List.range f.2.2.2.2.1.length).all (λj=>decide (uk m f (R j) j=0))=true
   ·rw[adp dj,adp dj];have qI:∀j,j<f.2.2.2.2.1.length->fA m f (a8 f.2.2.2.2.1 j)=true:=λj hj=>by
     have:=adE.1 dj j (adL.2 hj);rw[adk] at this;unfold uk at this;split at this
     ·rename_i h;exact h
     ·cases this
    have WK:Pre m f:=⟨hf,ff,hm,ok,h0,qI⟩;have escr':=escr WK;rcases VG WK with⟨hRt,t,hT,e3⟩|⟨hRt,e3⟩
    ·rcases escr' with⟨-,t',hT',e4⟩|⟨hn,-⟩
     ·have:=hT.eq hRt hT';subst this;rw[e3,e4,a9,a9];cases kD:NJ t f.2.2.2.2.1.length with
      |false=>exact⟨-1,36,[],[],rfl,rfl,λh=>absurd h (by decide)⟩
      |true=>
       rw[aC (c:=an true) rfl,aC (c:=an true) rfl];obtain⟨pp,hpp⟩:∃pp:Nat,f.2.1=pp:=⟨f.2.1.toNat,ade⟩;have hrw:∀j,j<f.2.2.2.2.1.length->∀x,(x∈(gg (a8 f.2.2.2.2.1 j)).1\/x∈(gg (a8 f.2.2.2.2.1 j)).2)->x<(f.2.2.2.1.length:Int):=λj hj x hx=>by
        have hn:=qI j hj;unfold fA at hn;rw[adr,adE] at hn;have hm:x∈(gg (a8 f.2.2.2.2.1 j)).1++(gg (a8 f.2.2.2.2.1 j)).2:=adC.2 hx;obtain⟨q,hq,hqe⟩:=List.getElem_of_mem hm;have:=hn.1 q (adL.2 hq);rw[bz hq,hqe,adn,adj] at this;omega
       have hw:∀j,j<f.2.2.2.2.1.length->Sub (fv f.2.2.2.2.1 j) (lj f.2.2.2.1.length):=λj hj=>wH (λk hk=>by
        have hx:a8 (gg (a8 f.2.2.2.2.1 j)).2 k∈(gg (a8 f.2.2.2.2.1 j)).2:=by rw[bz hk];exact adT _
        exact⟨(mD (ok.o j hj) (Or.inr hx)).1,hrw j hj _ (Or.inr hx)⟩) _ (adw _)
       obtain⟨o,hO,e5⟩:=VH f5 h0 (p:=pp) (s:=f.2.2.2.1.length) Tt ade hrw;obtain⟨o',hO',e6⟩:=VV h0 (p:=pp) (s:=f.2.2.2.1.length) Tt ade hw;have:=hO.eq hO';subst this;have X4:=hO.1;rw[hpp,e5,e6,a9,a9,aC cE];rw[bS (λj=>((j:Int),0,0,[],[])) f.2.2.2.2.1.length (NO f.2.2.2.2.1 o) (λj=>([],[],(j:Int),38,())) (0,0,[],[]) ?_ ade ?_ ?_];rotate_left
       ·rfl
       ·intro j hj _;have d6:=ok.o j hj;have W_:j<o.length:=ade;simp only[cZ,hj,ao,ads,adA,ak,Af d6,a9];have qf:=(oz (a8 f.2.2.2.2.1 j)).1;have Tu:∀s∈(gg (a8 f.2.2.2.2.1 j)).1,0<=s/\s<=15:=λs hs=>mD d6 (Or.inl hs)
        unfold NO;generalize(gg (a8 f.2.2.2.2.1 j)).1=l at qf Tu⊢;rw[fZ (λk=>((k:Int),0,0,[],[])) l.length (λk=>decide (a8 o j/2^(a8 l k).toNat %2=1)) ([],[],(j:Int),38,()) (0,0,[],[]) ?_ ade ?_ ?_]
        ·rw[aU ade];rfl
        ·rfl
        ·intro k hk;have hs:=Tu (a8 l k) (by rw[bz hk];exact adT _);simp only[cZ,hk,W_,ads,adA,ak,cE,aeb,ae7,T.jv,hs.1,T.mV,T.ke,and_1,ax,join_some,aU (show k<9223372036854775807 by omega)];rcases Nat.mod_two_eq_zero_or_one (a8 o j/2^(a8 l k).toNat) with h|h
         ·rw[h];rfl
         ·rw[h];rfl
        ·simp only[ba];rfl
       ·intro _;rw[ba];rfl
       rw[bS (λj=>(j:Int)) f.2.2.2.2.1.length (NO f.2.2.2.2.1 o) (λj=>((j:Int),38)) () ?_ ade ?_ ?_];rotate_left
       ·rfl
       ·intro j hj _;have d6:=ok.o j hj;have W_:j<o.length:=ade;have qf:=(oz (a8 f.2.2.2.2.1 j)).1;have Tu:∀s∈(gg (a8 f.2.2.2.2.1 j)).1,0<=s/\s<=15:=λs hs=>mD d6 (Or.inl hs)
        simp only[cZ,hj,ao,ads,adA,ak,Eo d6,a9];unfold NO;generalize(gg (a8 f.2.2.2.2.1 j)).1=l at qf Tu⊢;rw[bA l.length (λk=>decide (a8 o j/2^(a8 l k).toNat %2=1)) ((j:Int),38) () ade ?_ ?_]
        ·rw[aU ade];split<;>rfl
        ·intro k hk;have hs:=Tu (a8 l k) (by rw[bz hk];exact adT _);have Yq:∀{ρ:Type} (k:Option ρ),T.gO 2 k=k:=λk=>by rw[T.e9,adq (by decide)]
         simp only[cZ,hk,W_,ads,adA,ak,T.jv,hs.1,Yq,T.dR,T.ke,ax,aU (show k<9223372036854775807 by omega)];rcases Nat.mod_two_eq_zero_or_one (a8 o j/2^(a8 l k).toNat) with h|h
         ·rw[h];rfl
         ·rw[h];rfl
        ·rw[ba];rfl
       ·intro _;rw[ba];rfl
       by_cases RA:(List.range f.2.2.2.2.1.length).all (NO f.2.2.2.2.1 o)=true
       ·rw[adp RA,adp RA];have z1:(Ds m t f.2.2.2.2.1.length).length=f.2.2.2.2.1.length:=rG _ _ _;rw[Lv (Ds m t f.2.2.2.2.1.length) ade,a9,adi,aD (by rw[aG];rfl),Lv o ade,a9,adi];have hTl:=hT.1;refine⟨0,0,gX (Ds m t f.2.2.2.2.1.length) (Ds m t f.2.2.2.2.1.length).length,gX o o.length,rfl,rfl,λ_=>⟨rfl,?_,?_,?_⟩⟩
        ·have:=lM (Ds m t f.2.2.2.2.1.length) (Ds m t f.2.2.2.2.1.length).length;omega
        ·have:=lM o o.length;omega
        ·have Ns:∀j,j<t.length->xL m (a8 t j):=λj hj=>by
          by_cases hr:lq (cU f.2.2.2.2.1) 0 j
          ·exact Kn WK (hT.2.1 j hr)
          ·rw[hT.2.2 j hr];exact⟨λx hx=>(by cases hx),ae5 _⟩
         rw[a9,SA hm ade Ns,hTl,LY (l:=Ds m t f.2.2.2.2.1.length) ade,a9,a9,LY (l:=o) ade,a9]
       ·rw[adq RA,adq RA];exact⟨_,38,[],[],rfl,rfl,λh=>absurd h (by decide)⟩
     ·exact absurd hRt hn
    ·rcases escr' with⟨hRt',-⟩|⟨-,e4⟩
     ·exact absurd hRt' hRt
     ·rw[e3,e4];exact⟨-1,36,[],[],rfl,rfl,λh=>absurd h (by decide)⟩
   ·rw[adq dj,adq dj];refine⟨_,_,[],[],rfl,rfl,λh=> ?_⟩;exfalso;obtain⟨k,hk,h1,h2⟩:=sx dj;rw[GW hk h2 h1] at h;simp[h] at h1
 ·rw[Ls f5 h0,a9,aD (bG (by decide)),aD (bG h0)];exact⟨-1,12,[],[],rfl,rfl,λh=>absurd h (by decide)⟩
theorem j7 {m:aK} (h:iG m=0):oD m:=by
 unfold iG at h;split at h
 ·rename_i hf;exact vO hf
 ·cases h
theorem SL {m:aK} (hf:Fit bJ m) (hm:oD m) {i:Nat} (hi:i<m.2.2.1.length):∃w:Int×Int,KU m (i:Int)=some w/\
 (bind (Lb m (i:Int)) (λv3=>(join Bool (af (bm v3.2.2.2.1 0) (λ_=>(bind (II v3.1 (a8 m.2.2.1 i).2.2.2.2.2.1) (λv4=>(af (an v4) (λ_=>(some true)) λ_=>(bind (II v3.2.1 (a8 m.2.2.1 i).2.2.2.2.2.2.1) (λv5=>(some (an v5)))))))) λ_=>(some false)) (λv4=>(join fD (af v4 (λ_=>(some (v3.1,(v3.2.1,((-1),(32,v3.2.2.2.2)))))) λ_=>(some v3)) (λv5=>(af (an (bm v5.2.2.2.1 0)) (λ_=>(some (T.LR.rt ((i:Int),v5.2.2.1,v5.2.2.2.1)))) λ_=>(some (T.LR.ok ((i+1:Nat):Int))))))))))
   =((if w.2=0 then some (.ok ((i+1:Nat):Int)) else some (.rt ((i:Int),w.1,w.2))):Option (T.LR Int Unit (Int×(Int×Int)))):=by
 obtain⟨a,e,s,v,h1,h2,h3⟩:=Xi hf hm hi;rw[h1,a9];unfold KU;rw[h2,a9];dsimp only
 by_cases h0:e=0
 ·subst h0;obtain⟨-,hs,hv,ht⟩:=h3 rfl;rw[aD (by rw[aG];rfl),aD (by rw[aG];rfl),ak,adp hi,ht,a9,T5 (hf.2.2.1.at hi) ade ade,a9,join_some,Lc ade,a9,Lc ade,a9];simp only[bR,join_some];cases rj s (a8 m.2.2.1 i).2.2.2.2.2.1 with
  |false=>
   refine⟨(-1,32),rfl,?_⟩;rw[aD (c:=an false||an (rj v (a8 m.2.2.1 i).2.2.2.2.2.2.1)) rfl,join_some,aD (bG (show(32:Int)≠0 by decide)),adq (show¬(32:Int)=0 by decide)]
  |true=>
   cases rj v (a8 m.2.2.1 i).2.2.2.2.2.2.1 with
   |false=>
    refine⟨(-1,32),rfl,?_⟩;rw[aD (c:=an true||an false) rfl,join_some,aD (bG (show(32:Int)≠0 by decide)),adq (show¬(32:Int)=0 by decide)]
   |true=>
    refine⟨(a,0),rfl,?_⟩;rw[aC (c:=an true||an true) rfl,join_some,aC cE,adp rfl]
 ·rw[aC (by rw[aG];exact adl h0),aC (by rw[aG];exact adl h0),join_some,join_some,aC rfl,aC rfl,join_some];exact⟨(a,e),rfl,by rw[aD (bG h0),adq h0]⟩
theorem GY {m:aK} (hf:Fit bJ m) {n:Nat} (hn:3<n):∃r:Int×(Int×Int),f85 m=some r/\f65 n m=some r/\(r.2.2=0->iG m=0):=by
 unfold f85 f65;rw[GU hf,a9,V4 hf hn,a9]
 by_cases h0:iG m=0
 ·have hm:=j7 h0;have h3:=hf.2.2.1.len;rw[aC (cQ h0),aC (cQ h0)];have hw:∀i:Nat,∃w:Int×Int,i<m.2.2.1.length->KU m (i:Int)=some w/\_:=λi=>by
   by_cases hi:i<m.2.2.1.length
   ·obtain⟨w,hw⟩:=SL hf hm hi;exact⟨w,λ_=>hw⟩
   ·exact⟨(0,0),λh=>absurd h hi⟩
  obtain⟨W,hW⟩:=Classical.axiomOfChoice hw;rw[bS (λi=>(i:Int)) m.2.2.1.length (λi=>decide ((W i).2=0)) (λi=>((i:Int),(W i).1,(W i).2)) () ?_ ade ?_ ?_];rotate_left
  ·rfl
  ·intro i hi _;have:=(hW i hi).2;simp only[adk];rw[aD (by rw[cZ];exact adm hi),ak,adp hi,aU ade];exact this
  ·intro _;rw[ba];rfl
  rw[bS (λi=>(i:Int)) m.2.2.1.length (λi=>decide ((W i).2=0)) (λi=>((i:Int),(W i).1,(W i).2)) () ?_ ade ?_ ?_];rotate_left
  ·rfl
  ·intro i hi _;have:=(hW i hi).1;simp only[adk];rw[aD (by rw[cZ];exact adm hi),this,a9,aU ade]
   by_cases hz:(W i).2=0
   ·rw[aC (cQ hz),adp hz];rfl
   ·rw[aD (bG hz),adq hz];rfl
  ·intro _;rw[ba];rfl
  split
  ·exact⟨_,rfl,rfl,λ_=>h0⟩
  ·exact⟨_,rfl,rfl,λ_=>h0⟩
 ·rw[aD (bG h0),aD (bG h0)];exact⟨_,rfl,rfl,λh=>absurd h h0⟩
noncomputable def xP (m:aK):Int:=(Ye m).getD 0
theorem T6 {m:aK} (hf:Fit bJ m):Ye m=some (xP m)/\(∀n,3<n->f33 n m=some (xP m))/\(xP m=0->iG m=0):=by
 obtain⟨r,h1,-,h3⟩:=GY hf (n:=4) ade;have e1:Ye m=some r.2.2:=by unfold Ye;rw[h1];rfl
 have e2:xP m=r.2.2:=by unfold xP;rw[e1];rfl
 refine⟨by rw[e1,e2],λn hn=> ?_,λh=>h3 (by rw[<-e2];exact h)⟩;obtain⟨r',h1',h2',-⟩:=GY hf hn;rw[h1] at h1';injection h1' with h1'
 unfold f33;rw[h2',a9,<-h1',e2]
theorem fI {x:aq} (h:ko x=0):8<=x.1/\x.1<=1099511627776/\x.1 %8=0/\x.2.1.length<=20000:=by
 unfold ko OZ at h;split at h
 ·rename_i hc;simp only[adr,adk] at hc;omega
 ·cases h
def HB (x y:aq):Bool:=decide (0<x.2.1.length)&&(decide (0<y.2.1.length)&&(decide (x.1<y.1+y.2.1.length)&&decide (y.1<x.1+x.2.1.length)))
def gl (x:aq) (a:Nat) (n:Int):Bool:=decide (x.1<=a)&&decide ((a:Int)+n<=((x.1+x.2.1.length:Nat):Int))
theorem Qh {x:aq} (h:ko x=0):cP 7 x.1 (bF 7 (x.2.1.length:Int))=x.1+x.2.1.length:=by
 have:=fI h;rw[ky ade,gS ade]
theorem Vr {x y:aq} (hx:ko x=0) (hy:ko y=0):Lh x y=some (decide (x.1<y.1+y.2.1.length)&&decide (y.1<x.1+x.2.1.length)):=by
 unfold Lh;rw[Qh hx,Qh hy];simp only[aW,bX,join_some]
theorem nc {x:aq} (hx:ko x=0) {a:Nat} (ha:a<18446744073709551616) {n:Int} (hn:0<=n):vD x a n=some (gl x a n):=by
 have hk:=fI hx;unfold vD gl;rw[Qh hx];simp only[bR,join_some,aE,aW]
 by_cases h:20000<n\/2199023255552<a
 ·rw[aD (by simpa using h)];refine congrArg some (Eq.symm ?_);rw[ae6,adj,adj];omega
 ·rw[aC (by simpa using h)];obtain⟨k,rfl⟩:∃k:Nat,n=k:=⟨n.toNat,ade⟩;rw[ky ade,gS ade,aZ,aZ,bX,join_some];refine congrArg some ?_;congr 1;rw[ae8,adk,adk];omega
theorem wh {x:aq} (hx:ko x=0) {a:Nat} {n:Int} (hn:1<=n):(wg x a n).2=gl x a n:=by
 unfold wg gl;split
 ·refine Eq.symm ?_;rw[ae6,adj,adj];omega
 ·dsimp only;rw[ae8,adr,adk,adk,adk];omega
theorem Vz {x y:aq} (hx:ko x=0) (hy:ko y=0):QF x y=some (HB x y):=by
 have h1:=fI hx;have h2:=fI hy;unfold QF;rw[bA x.2.1.length (λi=> !gl y (x.1+i) 1) true () ade ?_ ?_]
 ·have:(List.range x.2.1.length).all (λi=> !gl y (x.1+i) 1)= !HB x y:=by
   rw[ae8,adE,adn];unfold gl HB;simp only[adL,adn,ae6,adj];constructor
   ·intro H
    by_cases hc:0<x.2.1.length/\0<y.2.1.length/\x.1<y.1+y.2.1.length/\y.1<x.1+x.2.1.length
    ·exfalso;have:=H (max x.1 y.1-x.1) ade;omega
    ·omega
   ·intro H i hi;omega
  rw[this];cases HB x y<;>rfl
 ·intro i hi;have e1:cP 7 x.1 (bF 7 (i:Int))=x.1+i:=by rw[ky ade,gS ade]
  simp only[cZ,hi,ao,ads,adA,e1,nc hy (show x.1+i<18446744073709551616 by omega) (show(0:Int)<=1 by decide),a9,aU (show i<9223372036854775807 by omega)];cases gl y (x.1+i) 1<;>rfl
 ·rw[ba];rfl
def BY (l:List aq) (i:Nat):Bool:=(List.range i).all λj=> !HB (a8 l i) (a8 l j)
def fO (l:List aq):Int:=if 17<(l.length:Int) then 4 else if(List.range l.length).all (λi=>decide (ko (a8 l i)=0))=true then(if(List.range l.length).all (BY l)=true then 0 else 14) else 8
theorem Vc {l:List aq} (hl:l.length<=5000):K_ l=some (fO l):=by
 unfold K_ fO
 by_cases Nf:17<(l.length:Int)
 ·rw[adp Nf,aD (by rw[aE];exact adm Nf)]
 ·rw[adq Nf,aC (by rw[aE];exact adl Nf)];rw[bA l.length (λi=>decide (ko (a8 l i)=0)) 8 () ade ?_ ?_]
  ·by_cases dj:(List.range l.length).all (λi=>decide (ko (a8 l i)=0))=true
   ·rw[adp dj,adp dj];have hr:∀i,i<l.length->ko (a8 l i)=0:=λi hi=>aed (adE.1 dj i (adL.2 hi))
    rw[bA l.length (BY l) 14 () ade ?_ ?_]
    ·split<;>rfl
    ·intro i hi;unfold BY;rw[aD (by rw[cZ];exact adm hi)];rw[bA i (λj=> !HB (a8 l i) (a8 l j)) 14 () ade ?_ ?_]
     ·rw[aU ade];split<;>rfl
     ·intro j hj;have nq:j<l.length:=ade;simp only[cZ,hj,hi,nq,ao,ads,adA,ak,Vz (hr i hi) (hr j nq),a9,aU (show j<9223372036854775807 by omega)];cases HB (a8 l i) (a8 l j)<;>rfl
     ·rw[ba];rfl
    ·rw[ba];rfl
   ·rw[adq dj,adq dj]
  ·intro i hi;simp only[cZ,hi,ao,ads,adA,ak,Vy,a9,aA,aG,bh,bT,aU (show i<9223372036854775807 by omega)];grind
  ·rw[ba];rfl
def hasB (l:List aq) (a:Nat) (n:Int):Bool:= !(List.range l.length).all λi=> !gl (a8 l i) a n
def nj (l:List aq) (a:Nat) (n:Int):Nat:=fB (λi=> !gl (a8 l i) a n) l.length
def xW (l:List aq) (a:Nat) (n:Int):Int×Int:=if fO l=0 then(if n<1 then(0,2) else if hasB l a n=true then((nj l a n:Int),0) else(0,6)) else(0,fO l)
theorem gD {l:List aq} (h:fO l=0):l.length<=17/\(∀i,i<l.length->ko (a8 l i)=0)/\∀i j,j<i->i<l.length->HB (a8 l i) (a8 l j)=false:=by
 unfold fO at h;split at h
 ·cases h
 ·split at h
  ·rename_i h1 h2;split at h
   ·rename_i h3;refine⟨ade,λi hi=>aed (adE.1 h2 i (adL.2 hi)),λi j hj hi=> ?_⟩;have:=adE.1 h3 i (adL.2 hi);unfold BY at this;have:=adE.1 this j (adL.2 hj);simpa using this
   ·cases h
  ·cases h
theorem A9 {l:List aq} (hl:l.length<=5000) {a:Nat} (ha:a<18446744073709551616) (n:Int):E6 l a n=some (xW l a n):=by
 unfold E6 xW
 by_cases Nf:17<(l.length:Int)
 ·have e:fO l=4:=by unfold fO;rw[adp Nf]
  rw[aD (by rw[aE];exact adm Nf),e];rfl
 ·rw[aC (by rw[aE];exact adl Nf)];rw[bS (λi=>(i:Int)) l.length (λi=>decide (ko (a8 l i)=0)) (λi=>(i:Int)) () ?_ ade ?_ ?_];rotate_left
  ·rfl
  ·intro i hi _;have e1:Qx (a8 l i)=some (an (bm (ko (a8 l i)) 0)):=by unfold Qx;rw[Ac];rfl
   simp only[cZ,hi,ao,ads,adA,ak,e1,a9,aA,aG,bh,bT,aU (show i<9223372036854775807 by omega)];grind
  ·intro _;rw[ba];rfl
  by_cases dj:(List.range l.length).all (λi=>decide (ko (a8 l i)=0))=true
  ·rw[adp dj];have hr:∀i,i<l.length->ko (a8 l i)=0:=λi hi=>aed (adE.1 dj i (adL.2 hi))
   rw[aC (by rw[aN];rfl)];rw[bA l.length (BY l) (0,14) () ade ?_ ?_]
   ·by_cases hd:(List.range l.length).all (BY l)=true
    ·have e0:fO l=0:=by unfold fO;rw[adq Nf,adp dj,adp hd]
     rw[adp hd,adp e0]
     by_cases hn:n<1
     ·rw[adp hn,aD (by rw[aE];exact adm hn)]
     ·rw[adq hn,aC (by rw[aE];exact adl hn)];rw[bS (λi=>(i:Int)) l.length (λi=> !gl (a8 l i) a n) (λi=>((i:Int),0)) () ?_ ade ?_ ?_];rotate_left
      ·rfl
      ·intro i hi _;have hlen:=(fI (hr i hi)).2.2.2;simp only[cZ,hi,ao,ads,adA,ak,vE (show(a8 l i).2.1.length<4611686018427387904 by omega) ha,a9,wh (hr i hi) (show 1<=n by omega),aU (show i<9223372036854775807 by omega)];cases gl (a8 l i) a n<;>rfl
      ·intro _;rw[ba];rfl
      unfold hasB nj;cases(List.range l.length).all (λi=> !gl (a8 l i) a n)<;>rfl
    ·have e0:fO l=14:=by unfold fO;rw[adq Nf,adp dj,adq hd]
     rw[adq hd,e0];rfl
   ·intro i hi;have WQ:∀{ρ:Type} (k:Nat->Option ρ),T.b_ l.length (i:Int) k=k i:=λk=>by rw[T.d4,adh,adx]
    have hlen:(av i (aH 0 l)).length=i:=by show(List.take i (List.drop 0 l)).length=i;rw[List.drop_zero,adY];omega
    have eR:∀j,j<i->a8 (av i (aH 0 l)) j=a8 l j:=λj hj=>by
     rw[bz (by rw[hlen];exact hj),bz ade];show(List.take i (List.drop 0 l))[j]'_=_;simp
    unfold BY;rw[aD (by rw[cZ];exact adm hi),ak,adp hi,WQ,hlen];rw[bA i (λj=> !HB (a8 l i) (a8 l j)) (0,14) () ade ?_ ?_]
    ·rw[aU ade];split<;>rfl
    ·intro j hj;have nq:j<l.length:=ade;simp only[cZ,hj,hlen,ao,ads,adA,ak,eR j hj,Vr (hr i hi) (hr j nq),a9,aU (show j<9223372036854775807 by omega)];have ex:(if aO 0 ((a8 l i).2.1.length:Int)=true then if aO 0 ((a8 l j).2.1.length:Int)=true then some (decide ((a8 l i).1<(a8 l j).1+(a8 l j).2.1.length)&&decide ((a8 l j).1<(a8 l i).1+(a8 l i).2.1.length)) else some false else some false)=some (HB (a8 l i) (a8 l j)):=by
      unfold HB;rw[aE,aE]
      by_cases k1:0<(a8 l i).2.1.length
      ·rw[adp adf,adm k1,adW]
       by_cases k2:0<(a8 l j).2.1.length
       ·rw[adp adf,adm k2,adW]
       ·rw[adq (by rw[adk];omega),adl k2,Bool.false_and]
      ·rw[adq (by rw[adk];omega),adl k1,Bool.false_and]
     rw[ex,join_some];cases HB (a8 l i) (a8 l j)<;>rfl
    ·rw[ba];rfl
   ·rw[ba];rfl
  ·have e:fO l=8:=by unfold fO;rw[adq Nf,adq dj]
   rw[adq dj,aD (by rw[aN];exact adf),e];rfl
def okB (b:List Nat):Prop:=∀j,a8 b j<256
theorem kG {l:List Nat} (h:Fit (.sl (.u 4)) l):okB l:=λj=>by
 by_cases hj:j<l.length
 ·rw[bz hj];exact h.2 _ (adT hj)
 ·rw[dJ ade];decide
def cX (b:List Nat) (o:Nat):Nat->Nat
 |0=>0
 |k+1=>cX b o k+256^k*a8 b (o+k)
theorem rN {b:List Nat} (hb:okB b) (o:Nat):∀k,cX b o k<256^k
 |0=>by simp[cX]
 |k+1=>by
  have h1:=rN hb o k;have h2:=hb (o+k);have h3:256^k*a8 b (o+k)<=256^k*255:=Nat.mul_le_mul_left _ ade;simp only[cX,Nat.pow_succ];omega
def uv (b:List Nat) (o k:Nat):Nat->Nat
 |0=>0
 |r+1=>uv b o k r*256+a8 b (o+(k-(r+1)))
theorem HX {b:List Nat} (hb:okB b) (o k:Nat):∀r,uv b o k r<256^r
 |0=>by simp[uv]
 |r+1=>by
  have h1:=HX hb o k r;have h2:=hb (o+(k-(r+1)));simp only[uv,Nat.pow_succ];omega
theorem HW (b:List Nat) (o k:Nat):∀r,r<=k->cX b o (k-r)+256^(k-r)*uv b o k r=cX b o k
 |0,_=>by simp[uv]
 |r+1,hr=>by
  have ih:=HW b o k r ade;have e:k-r=(k-(r+1))+1:=ade;rw[e] at ih;simp only[cX,Nat.pow_succ] at ih;simp only[uv];rw[<-ih,Nat.mul_add,Nat.mul_assoc,Nat.mul_comm 256 (uv b o k r)];omega
theorem Pq (b:List Nat) (o k:Nat):uv b o k k=cX b o k:=by
 have:=HW b o k k (adw _);simpa[cX] using this
theorem Sa {a b:Nat} (ha:a<72057594037927936) (hb:b<256):m8 (la 7 a 8) (lF 7 b)=a*256+b:=by
 rw[T.qZ,T.pY,T.pt];have e1:a*2^8 %fo 7=2^8*a:=by
  show a*2^8 %18446744073709551616=_;omega
 have e2:b %fo 7=b:=by
  show b %18446744073709551616=b;omega
 rw[e1,e2];show 2^8*a|||b=_;rw[<-Nat.two_pow_add_eq_or_of_lt (show b<2^8 by omega) a];omega
theorem DA {ρ:Type} {b:List Nat} (hb:okB b) {o k:Nat} (hk:k<=8) (hl:o+k<=b.length) (ho:b.length<4611686018427387904) {f:Nat×Int->Option (T.LR (Nat×Int) Nat ρ)} {kx:Nat->Option ρ} {kr:ρ->Option ρ}
 (h1:∀(a j:Nat),j<k->f (a,(j:Int))=some (.ok (m8 (la 7 a 8) (lF 7 (a8 b (o+j))),bq 3 (j:Int) 1))) (h2:∀a,f (a,-1)=some (.ex a)):loop (Nat×Int) Nat ρ f (0,(k:Int)-1) kx kr=kx (cX b o k):=by
 rw[aV (λr=>(uv b o k r,(k:Int)-1-(r:Int))) k (uv b o k k) ?_ ade ?_ ?_]
 ·rw[Pq]
 ·simp[uv]
 ·intro r hr;have ht:=HX hb o k r;have ht2:256^r<=256^7:=Nat.pow_le_pow_right ade ade;have e:(k:Int)-1-(r:Int)=((k-(r+1):Nat):Int):=ade;rw[e,h1 _ _ ade,Sa ade (hb _),cD ade ade];refine congrArg (λz=>some (T.LR.ok z)) (Prod.ext rfl ?_);show((k-(r+1):Nat):Int)-1=(k:Int)-1-((r+1:Nat):Int);omega
 ·rw[show(k:Int)-1-(k:Int)= -1 by omega];exact h2 _
theorem VO {b:List Nat} (hb:okB b) {i:Nat} (hl:8*i+8<=b.length) (hlen:b.length<=100000):mO b (i:Int)=some (cX b (8*i) 8):=by
 unfold mO;have e7:(7:Int)=((8:Nat):Int)-1:=ade;rw[e7];refine(DA (ρ:=Nat) hb (o:=8*i) (k:=8) ade hl ade (λa j hj=> ?_) (λa=> ?_)).trans rfl
 ·have e1:ab 3 (fg 3 8 (i:Int)) (j:Int)=((8*i+j:Nat):Int):=by rw[eh ade ade,c8 ade ade];omega
  have K5:8*i+j<b.length:=ade;dsimp only;rw[aD (by rw[aN];exact adf),e1,ak,adp K5];rfl
 ·dsimp only;rw[aC (by rw[aN];rfl)];rfl
def RW (x:aq) (a:Nat) (n:Int):Nat×Int:=if ko x=0 then(if n≠1/\n≠8 then(0,2) else if gl x a n=true then(cX x.2.1 (a-x.1) n.toNat,0) else(0,16)) else(0,ko x)
theorem fG {x:aq} {a:Nat} {n:Int} (h:gl x a n=true):x.1<=a/\(a:Int)+n<=((x.1+x.2.1.length:Nat):Int):=by
 unfold gl at h;simpa using h
theorem Tk {x:aq} (hf:Fit aP x) {a:Nat} (ha:a<18446744073709551616) (n:Int):N2 x a n=some (RW x a n):=by
 have hb:=kG hf.2.1;have hlen:=hf.2.1.len;unfold N2 Vn RW;rw[Ac,a9]
 by_cases h0:ko x=0
 ·rw[adp h0,aC (cQ h0)];have hk:=fI h0
  by_cases hn:n≠1/\n≠8
  ·have:(af (an (bm n 1)) (λ_=>(some (an (bm n 8)))) λ_=>(some false))=some true:=by
    simp only[aA,aG,bX];simp[hn]
   rw[this,join_some,aD rfl,a9,adp hn,aD (bG (by decide))]
  ·have:(af (an (bm n 1)) (λ_=>(some (an (bm n 8)))) λ_=>(some false))=some false:=by
    simp only[aA,aG,bX];refine congrArg some ?_;rw[ae6,Bool.not_eq_false',Bool.not_eq_false',adk,adk];omega
   rw[this,join_some,aC rfl,vE ade ha,a9,wh h0 ade,adq hn]
   by_cases hi:gl x a n=true
   ·obtain⟨i1,i2⟩:=fG hi;have e1:(wg x a n).1=((a-x.1:Nat):Int):=by unfold wg;rw[adi]
    rw[hi,aC (c:=an true) rfl,a9,aC cE,e1,adp rfl];obtain⟨k,rfl⟩:∃k:Nat,n=k:=⟨n.toNat,ade⟩;rw[cD ade ade];have e2:=DA (ρ:=Nat×Int) hb (o:=a-x.1) (k:=k) ade ade ade (f:=λv1=>(af (cB 0 v1.2) (λ_=>(ai x.2.1.length (ab 3 ((a-x.1:Nat):Int) v1.2) (λv2=>(bh ((m8 (la 7 v1.1 8) (lF 7 (a8 x.2.1 v2))),(bq 3 v1.2 1)))))) λ_=>(lex v1.1))) (kx:=λv1=>some (v1,0)) (kr:=λ_=>none) (λc j hj=>by
     have e1:ab 3 ((a-x.1:Nat):Int) (j:Int)=((a-x.1+j:Nat):Int):=by rw[c8 ade ade];omega
     have K5:a-x.1+j<x.2.1.length:=ade;dsimp only;rw[aD (by rw[aN];exact adf),e1,ak,adp K5];rfl) (λc=>by
     dsimp only;rw[aC (by rw[aN];rfl)];rfl)
    exact e2.trans rfl
   ·have hif:gl x a n=false:=by simpa using hi
    rw[hif,aD (c:=an false) rfl,a9,aD (bG (by decide))];rfl
 ·rw[adq h0,aD (bG h0),a9,aD (bG h0)]
theorem Aa {x:aq} (hf:Fit aP x) {a k:Nat} (hk:k<=8) (ha:x.1<=a) (Tp:x.1<18446744073709551616) (hl:a+k<=x.1+x.2.1.length) (ha2:a<18446744073709551616):jm x a (k:Int)=some (cX x.2.1 (a-x.1) k):=by
 have hb:=kG hf.2.1;have hlen:=hf.2.1.len;unfold jm;rw[aV (λr=>(cX x.2.1 (a-x.1) r,256^r %18446744073709551616,(r:Int))) k (cX x.2.1 (a-x.1) k) ?_ ade ?_ ?_]
 ·rfl
 ·intro r hr;have hw:=rN hb (a-x.1) r;have hw2:=rN hb (a-x.1) (r+1);have ht2:256^(r+1)<=256^8:=Nat.pow_le_pow_right ade ade;have ht3:256^r<=256^7:=Nat.pow_le_pow_right ade ade;have hbt:=hb (a-x.1+r);simp only[cX] at hw2;have e1:cP 7 (eE 7 a x.1) (bF 7 (r:Int))=a-x.1+r:=by rw[rq ha ha2,ky ade,gS ade]
  have iJ:a-x.1+r<x.2.1.length:=ade;have e2:256^r %18446744073709551616=256^r:=Nat.mod_eq_of_lt ade;have e3:lF 7 (a8 x.2.1 (a-x.1+r))=a8 x.2.1 (a-x.1+r):=by
   rw[T.pt];exact Nat.mod_eq_of_lt (by have:fo 7=18446744073709551616:=rfl;omega)
  have em:∀p q:Nat,sO 7 p q=p*q %18446744073709551616:=λp q=>by rw[T.sP];rfl
  simp only[cZ,hr,ao,ads,adA,e1,T.A1,iJ,e2,e3,em,aU (show r<9223372036854775807 by omega)];have e4:256^r*a8 x.2.1 (a-x.1+r) %18446744073709551616=256^r*a8 x.2.1 (a-x.1+r):=Nat.mod_eq_of_lt ade;rw[e4,gS ade];simp only[cX,Nat.pow_succ];rfl
 ·simp only[ba,ao];rfl
theorem RL {rs:List aq} (h:fO rs=0) {i j:Nat} (hi:i<rs.length) (hj:j<rs.length) {a:Nat} {n k:Int} (hn:1<=n) (hk:1<=k) (h1:gl (a8 rs i) a n=true) (h2:gl (a8 rs j) a k=true):i=j:=by
 obtain⟨-,-,hd⟩:=gD h;have a1:=fG h1;have a2:=fG h2;have key:∀i j,j<i->i<rs.length->(a8 rs i).1<=a->(a:Int)+1<=(((a8 rs i).1+(a8 rs i).2.1.length:Nat):Int)->(a8 rs j).1<=a->(a:Int)+1<=(((a8 rs j).1+(a8 rs j).2.1.length:Nat):Int)->False:=by
  intro i j hji hi b1 b2 b3 b4;have:=hd i j hji hi;unfold HB at this;rw[adf,adf,adf,adf] at this;cases this
 rcases Nat.lt_trichotomy i j with h|h|h
 ·exact(key j i h hj a2.1 ade a1.1 ade).elim
 ·exact h
 ·exact(key i j h hi a1.1 ade a2.1 ade).elim
theorem vJ {p:Nat->Bool} {n:Nat} (h:¬(List.range n).all p=true):fB p n<n/\p (fB p n)=false:=by
 obtain⟨k,hk,h1,h2⟩:=sx h;rw[GW hk h2 h1];exact⟨hk,h1⟩
theorem nY {rs:List aq} {a:Nat} {n:Int} (h:hasB rs a n=true):nj rs a n<rs.length/\gl (a8 rs (nj rs a n)) a n=true:=by
 unfold hasB at h;have:=vJ (p:=λi=> !gl (a8 rs i) a n) (n:=rs.length) (by intro e;rw[e] at h;cases h);unfold nj;exact⟨this.1,by simpa using this.2⟩
theorem H6 {rs:List aq} {a:Nat} {n:Int} {i:Nat} (hi:i<rs.length) (h:gl (a8 rs i) a n=true):hasB rs a n=true:=by
 unfold hasB;rw[adn];cases e:(List.range rs.length).all (λi=> !gl (a8 rs i) a n) with
 |false=>rfl
 |true=>
  have:=adE.1 e i (adL.2 hi);rw[h] at this;cases this
theorem G' {rs:List aq} (h:fO rs=0) {a:Nat} {n k:Int} {i:Nat} (hi:i<rs.length) (hn:1<=n) (hk:1<=k) (h1:gl (a8 rs i) a n=true) (h2:hasB rs a k=true):nj rs a k=i:=by
 obtain⟨q1,q2⟩:=nY h2;exact RL h q1 hi hk hn q2 h1
theorem Vd {rs:List aq} (h:fO rs=0) {a:Nat} (ha:a<18446744073709551616) {n:Int} (hn:0<=n):Qq rs a n=some (hasB rs a n):=by
 obtain⟨hl,hr,-⟩:=gD h;unfold Qq hasB;rw[bA rs.length (λi=> !gl (a8 rs i) a n) true () ade ?_ ?_]
 ·cases(List.range rs.length).all (λi=> !gl (a8 rs i) a n)<;>rfl
 ·intro i hi;simp only[cZ,hi,ao,ads,adA,ak,nc (hr i hi) ha hn,a9,aU (show i<9223372036854775807 by omega)];cases gl (a8 rs i) a n<;>rfl
 ·rw[ba];rfl
def ki (rs:List aq) (a:Nat) (n:Int):aq×Bool:=if a %8=0/\hasB rs a (max n 1)=true then(a8 rs (nj rs a (max n 1)),true) else((0,[],()),false)
theorem Ea {rs:List aq} (h:fO rs=0) {a:Nat} (ha:a<18446744073709551616) {n:Int}:IG rs a n=some (ki rs a n):=by
 obtain⟨hl,hr,-⟩:=gD h;unfold IG ki;rw[T.e9,adq (by decide),T.dR]
 by_cases h8:a %8=0
 ·rw[aC (by rw[aA,ax,adm h8];rfl)];rw[bS (λi=>((i:Int),0,[])) rs.length (λi=> !gl (a8 rs i) a (max n 1)) (λi=>(a8 rs i,true)) (0,[]) ?_ ade ?_ ?_];rotate_left
  ·rfl
  ·intro i hi _;simp only[cZ,hi,ao,ads,adA,ak,ny,nc (hr i hi) ha (show 0<=max n 1 by omega),a9,aU (show i<9223372036854775807 by omega)];cases gl (a8 rs i) a (max n 1)<;>rfl
  ·intro _;rw[ba];rfl
  unfold hasB nj;cases(List.range rs.length).all (λi=> !gl (a8 rs i) a (max n 1)) with
  |true=>rw[adp rfl,adq (by simp)]
  |false=>rw[adq (by decide),adp ⟨h8,rfl⟩]
 ·rw[aD (by rw[aA,ax,adl h8];rfl),adq λh=>h8 h.1]
theorem VZ {rs:List aq} (hf:Fit (.sl aP) rs) (h:fO rs=0) {a k:Nat} (ha:a<18446744073709551616) (hk:k<rs.length) (fe:gl (a8 rs k) a 8=true):ng rs a=some (cX (a8 rs k).2.1 (a-(a8 rs k).1) 8):=by
 obtain⟨hl,hr,-⟩:=gD h;unfold ng;have hb:=H6 hk fe;have hfi:=G' h hk ade ade fe hb;have PO:=fG fe;have hrk:=fI (hr k hk);rw[bS (λi=>(i:Int)) rs.length (λi=> !gl (a8 rs i) a 8) (λi=>cX (a8 rs i).2.1 (a-(a8 rs i).1) 8) () ?_ ade ?_ ?_];rotate_left
 ·rfl
 ·intro i hi _;simp only[cZ,hi,ao,ads,adA,ak,nc (hr i hi) ha (show(0:Int)<=8 by decide),a9,aU (show i<9223372036854775807 by omega)];cases hI:gl (a8 rs i) a 8 with
  |false=>rfl
  |true=>
   have j6:=fG hI;have hri:=fI (hr i hi);rw[adp rfl,show(8:Int)=((8:Nat):Int) from rfl,Aa (hf.at hi) ade j6.1 ade ade ha];rfl
 ·intro _;rw[ba];rfl
 unfold hasB at hb;rw[adq (by intro e;rw[e] at hb;cases hb)];unfold nj at hfi;rw[hfi]
theorem V_ {rs:List aq} (hf:Fit (.sl aP) rs) (h:fO rs=0) {a k:Nat} (ha:a<18446744073709551616) (hk:k<rs.length) (fe:gl (a8 rs k) a 1=true):IU rs a=some (a8 (a8 rs k).2.1 (a-(a8 rs k).1)):=by
 obtain⟨hl,hr,-⟩:=gD h;unfold IU;have hb:=H6 hk fe;have hfi:=G' h hk ade ade fe hb;have ew:∀i,i<rs.length->lF 4 (cX (a8 rs i).2.1 (a-(a8 rs i).1) 1)=a8 (a8 rs i).2.1 (a-(a8 rs i).1):=λi hi=>by
  have:=kG (hf.at hi).2.1 (a-(a8 rs i).1);rw[T.pt];show cX (a8 rs i).2.1 (a-(a8 rs i).1) 1 %256=_;simp only[cX,Nat.pow_zero,aeo,adI,ae9];exact Nat.mod_eq_of_lt this
 rw[bS (λi=>(i:Int)) rs.length (λi=> !gl (a8 rs i) a 1) (λi=>a8 (a8 rs i).2.1 (a-(a8 rs i).1)) () ?_ ade ?_ ?_];rotate_left
 ·rfl
 ·intro i hi _;simp only[cZ,hi,ao,ads,adA,ak,nc (hr i hi) ha (show(0:Int)<=1 by decide),a9,aU (show i<9223372036854775807 by omega)];cases hI:gl (a8 rs i) a 1 with
  |false=>rfl
  |true=>
   have j6:=fG hI;have hri:=fI (hr i hi);have e:=Aa (hf.at hi) (k:=1) ade j6.1 ade ade ha;rw[adp rfl,show(1:Int)=((1:Nat):Int) from rfl,e,a9,ew i hi];rfl
 ·intro _;rw[ba];rfl
 unfold hasB at hb;rw[adq (by intro e;rw[e] at hb;cases hb)];unfold nj at hfi;rw[hfi]
def u6 (x:aq) (a n:Nat):List Nat:=(x.2.1.drop (a-x.1)).take n
theorem lE {x:aq} {a n:Nat} (h:x.1<=a) (h2:a+n<=x.1+x.2.1.length):(u6 x a n).length=n:=by
 unfold u6;rw[adY,ael];omega
theorem E7 {x:aq} (hx:ko x=0) (hl:x.2.1.length<=5000) {a n:Nat} (ha:a<18446744073709551616) (h1:x.1<=a) (h2:a+n<=x.1+x.2.1.length):IC x a (n:Int)=some (u6 x a n,0):=by
 have e1:wg x a (n:Int)=(((a-x.1:Nat):Int),true):=by
  unfold wg;rw[adi];congr 1;rw[adk];omega
 unfold IC;rw[Cf ade ha,adp hx,adi,e1,a9,aC cE,aC (c:=an true) rfl,vE ade ha,e1,a9,c8 ade ade,T.d4,adh,T.d4,adh];have e2:(((a-x.1:Nat):Int)+(n:Int)).toNat=a-x.1+n:=ade;have e3:(((a-x.1:Nat):Int)).toNat=a-x.1:=ade;rw[e2,e3,show av (bt (a-x.1+n) (a-x.1)) (aH (a-x.1) x.2.1)=u6 x a n by
  show List.take (a-x.1+n-(a-x.1)) (List.drop _ _)=_;rw[ae1];rfl,Lj (by rw[lE h1 h2];omega),a9]
theorem La {x:aq} (hl:x.2.1.length<=5000) (hb:x.1<9223372036854775808) {a n:Nat} (ha:a<9223372036854775808) (h1:x.1<=a) (h2:a+n<=x.1+x.2.1.length):L9 x a (n:Int)=some (u6 x a n):=by
 unfold L9;rw[rq h1 ade,gk ade,c8 ade ade,T.d4,adh,T.d4,adh];have e2:(((a-x.1:Nat):Int)+(n:Int)).toNat=a-x.1+n:=ade;have e3:(((a-x.1:Nat):Int)).toNat=a-x.1:=ade;rw[e2,e3,show av (bt (a-x.1+n) (a-x.1)) (aH (a-x.1) x.2.1)=u6 x a n by
  show List.take (a-x.1+n-(a-x.1)) (List.drop _ _)=_;rw[ae1];rfl,aY (by rw[ay,lE h1 h2];omega)];rfl
theorem Ms {l:List aT} {rs:List aq} (hf:Fit (.sl aP) rs) (h:fO rs=0) {a n:Nat} (ha:a<18446744073709551616):Mr (l,rs,()) a (n:Int)=some (if(ki rs a n).2=true then(u6 (ki rs a n).1 a n,0) else([],16)):=by
 obtain⟨hl,hr,-⟩:=gD h;unfold Mr ki;dsimp only;rw[A9 ade ha,a9,ny];unfold xW;have DM:∀{ρ:Type} (k:Option ρ),T.gO 8 k=k:=λk=>by rw[T.e9,adq (by decide)]
 rw[adp h,adq (show¬max (n:Int) 1<1 by omega),DM,T.dR]
 by_cases hb:hasB rs a (max (n:Int) 1)=true
 ·obtain⟨q1,q2⟩:=nY hb;have q3:=fG q2;have hri:=fI (hr _ q1);have hlen:=(hf.at q1).2.1.len;rw[adp hb,aC cE,join_some]
  by_cases h8:a %8=0
  ·rw[aC (by rw[aA,ax,adm h8];rfl),ak,adp q1,E7 (hr _ q1) hlen ha q3.1 ade,a9,adp (And.intro h8 hb),adp rfl]
  ·rw[aD (by rw[aA,ax,adl h8];rfl),adq (λh=>h8 h.1:¬(a %8=0/\hasB rs a (max (n:Int) 1)=true)),adq (by decide)]
 ·rw[adq hb,aD (bG (by decide)),join_some,aD rfl,adq (λh=>hb h.2:¬(a %8=0/\hasB rs a (max (n:Int) 1)=true)),adq (by decide)]
end Go.Proofs.YtbjcjppphoppfaaGreat.M
