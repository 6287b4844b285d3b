import Derived.Test.YtbjcjppphoppfaaGreatEAI
set_option linter.all false
namespace Go.Proofs.YtbjcjppphoppfaaGreat.T
open Go
noncomputable section
variable [pf]
theorem y_ {W:List Nat} {e:TE}:∀(h:List TE) (i j:Nat),i+j∈W->cL W (setAt e h j) i=setAt e (cL W h i) j
 |[],_,_,_=>rfl
 |a::r,i,0,hj=>by
  show(bif fy i W then e else _)::_=e::cL W r _;rw[dz.2 (show i∈W from hj)];rfl
 |a::r,i,j+1,hj=>congrArg (_::·) (y_ r (Nat.succ i) j (by rw[show Nat.succ i+j=i+(j+1) by omega];exact hj))
theorem yY {W:List Nat} {e:TE}:∀(h:List TE) (i:Nat),i+h.length∈W->cL W (h++[e]) i=cL W h i++[e]
 |[],i,hj=>by
  show[(bif fy i W then e else _)]=[e];rw[dz.2 (show i∈W from hj)];rfl
 |a::r,i,hj=>congrArg (_::·) (yY r (Nat.succ i) (by rw[show Nat.succ i+r.length=i+(a::r).length by rw[adB];omega];exact hj))
theorem Jv {i:Nat} {W V:List Nat} (h:i∉V):fy i (W++V)=fy i W:=by
 cases hm:fy i W with
 |true=>exact dz.2 (adM _ (dz.1 hm))
 |false=>
  cases hn:fy i (W++V) with
  |false=>rfl
  |true=>rcases adC.1 (dz.1 hn) with k|k
         ·rw[dz.2 k] at hm;cases hm
         ·exact absurd k h
theorem wB {W V:List Nat}:∀(h:List TE) (i:Nat),(∀v∈V,i+h.length<=v)->cL (W++V) h i=cL W h i
 |[],_,_=>rfl
 |a::r,i,hv=>by
  show(bif fy i (W++V) then a else _)::_=(bif fy i W then a else _)::_;rw[Jv (λk=>by have:=hv i k;rw[adB] at this;omega),wB r (Nat.succ i) (λv k=>by have:=hv v k;rw[adB] at this;omega)]
theorem uM {f:Nat->TV}:∀(loc:List (Nat×Md)) (l:List TV) (fr:List TV) (h h0:List TE),mo f loc l ⟨fr,h⟩=(⟨(mo f loc l ⟨fr,h0⟩).1.fr,h⟩,(mo f loc l ⟨fr,h0⟩).2)
 |[],_,_,_,_=>rfl
 |(x,md)::r,l,fr,h,h0=>by
  rw[o9,o9];exact uM r _ _ h h0
theorem sD {f:Nat->TV} {W:List Nat}:∀(bP:List (Nat×Ty×Md)) (l:List TV) (s:TS),(∀x∈bP,x.1∈W)->iQ f bP l ⟨s.fr,cL W s.hp 0⟩=(⟨(iQ f bP l s).1.fr,cL W (iQ f bP l s).1.hp 0⟩,(iQ f bP l s).2)/\(iQ f bP l s).1.hp.length=s.hp.length
 |[],_,_,_=>⟨rfl,rfl⟩
 |(j,t,md)::r,l,s,h=>by
  rw[o8,o8];have hj:0+j∈W:=by rw[adI];exact h _ adt
  have e:TS.put ⟨s.fr,cL W s.hp 0⟩ j ⟨1, .box t (T.inj f md l).1⟩=⟨(s.put j ⟨1, .box t (T.inj f md l).1⟩).fr,cL W (s.put j ⟨1, .box t (T.inj f md l).1⟩).hp 0⟩:=by
   show(⟨s.fr,setAt _ (cL W s.hp 0) j⟩:TS)=⟨s.fr,cL W (setAt _ s.hp j) 0⟩;rw[y_ _ _ _ hj]
  rw[e];obtain⟨g1,g2⟩:=sD r (T.inj f md l).2 (s.put j ⟨1, .box t (T.inj f md l).1⟩) λx hx=>h x (ady _ hx)
  exact⟨g1,g2.trans (d5 _ _ _)⟩
theorem yM {W:List Nat}:∀(es:List Ty) (l:List TV) (s:TS),(∀k,k<es.length->s.hp.length+k∈W)->jt es l ⟨s.fr,cL W s.hp 0⟩=⟨(jt es l s).fr,cL W (jt es l s).hp 0⟩
 |[],l,s,_=>by cases l<;>rfl
 |e::r,[],s,_=>rfl
 |e::r,x::l,s,h=>by
  cases x with
  |v σ x=>
   show(match dy σ (.sl e) x with|some x=>jt r l (TS.new ⟨s.fr,cL W s.hp 0⟩ (.row e x))|none=>_)=⟨(match dy σ (.sl e) x with|some x=>jt r l (s.new (.row e x))|none=>s).fr,cL W (match dy σ (.sl e) x with|some x=>jt r l (s.new (.row e x))|none=>s).hp 0⟩;cases dy σ (.sl e) x with
   |none=>rfl
   |some y=>
    have e1:TS.new ⟨s.fr,cL W s.hp 0⟩ (.row e y)=⟨(s.new (.row e y)).fr,cL W (s.new (.row e y)).hp 0⟩:=by
     show(⟨s.fr,cL W s.hp 0++[_]⟩:TS)=⟨s.fr,cL W (s.hp++[_]) 0⟩;rw[yY _ _ (by rw[adI];exact h 0 (by rw[adB];omega))]
    show jt r l _=⟨(jt r l _).fr,_⟩;rw[e1];exact yM r l (s.new (.row e y)) λk hk=>by
     show(s.hp++[_]).length+k∈W;rw[ado,adJ,adV,Nat.add_comm 1 k];exact h (k+1) (by rw[adB];omega)
  |_=>rfl
theorem Cu {sh:Sh} {x:fE.T sh.iY} {s:TS}:dt sh x ⟨s.fr,cL (sh.bP.map (·.1)) s.hp 0⟩=⟨(dt sh x s).fr,cL (sh.bP.map (·.1)++List.range' s.hp.length sh.rows.length) (dt sh x s).hp 0⟩:=by
 have e0:cL (sh.bP.map (·.1)) s.hp 0=cL (sh.bP.map (·.1)++List.range' s.hp.length sh.rows.length) s.hp 0:=(wB s.hp 0 λv hv=>by
  obtain⟨h1,_⟩:=List.mem_range'_1.1 hv;omega).symm
 rw[e0];have hW1:∀y∈sh.bP,y.1∈sh.bP.map (·.1)++List.range' s.hp.length sh.rows.length:=λy hy=>adM _ (List.mem_map_of_mem hy)
 have hW2:∀k,k<sh.rows.length->s.hp.length+k∈sh.bP.map (·.1)++List.range' s.hp.length sh.rows.length:=λk hk=>adH _ (List.mem_range'_1.2 ⟨ade,ade⟩)
 generalize sh.bP.map (·.1)++List.range' s.hp.length sh.rows.length=W at hW1 hW2⊢;unfold dt;dsimp only;rw[lK,uM sh.loc (ga sh.iY x) s.fr (cL W s.hp 0) s.hp];have hl:(mo (λk=>TV.r (s.hp.length+k)) sh.loc (ga sh.iY x) s).1.hp=s.hp:=by
  have:=uM (f:=λk=>TV.r (s.hp.length+k)) sh.loc (ga sh.iY x) s.fr s.hp s.hp;have e:(⟨s.fr,s.hp⟩:TS)=s:=rfl;rw[e] at this;rw[this]
 have e:(⟨s.fr,s.hp⟩:TS)=s:=rfl;rw[e];generalize mo (λk=>TV.r (s.hp.length+k)) sh.loc (ga sh.iY x) s=A at hl⊢;obtain⟨s1,l1⟩:=A;have hl:s1.hp=s.hp:=hl;dsimp only;rw[<-hl];obtain⟨g1,g2⟩:=sD (f:=λk=>TV.r (s1.hp.length+k)) sh.bP l1 s1 hW1;rw[g1];generalize iQ (λk=>TV.r (s1.hp.length+k)) sh.bP l1 s1=A at g2⊢;obtain⟨s2,l2⟩:=A;have g2:s2.hp.length=s1.hp.length:=g2;dsimp only;exact yM sh.rows l2 s2 λk hk=>by rw[g2,hl];exact hW2 k hk
theorem yK {f:Nat->TV} {j:Nat}:∀(bP:List (Nat×Ty×Md)) (l:List TV) (s:TS),j∉bP.map (·.1)->nth .bu (iQ f bP l s).1.hp j=nth .bu s.hp j
 |[],_,_,_=>rfl
 |(i,t,md)::r,l,s,h=>by
  rw[o8];refine(yK r _ _ λk=>h (ady _ k)).trans ?_;show nth .bu (setAt _ s.hp i) j=_;rw[cx,adq λk=>h (by rw[k.1];exact adt)]
theorem yL {j:Nat}:∀(es:List Ty) (l:List TV) (s:TS),j<s.hp.length->nth .bu (jt es l s).hp j=nth .bu s.hp j
 |[],l,s,_=>by cases l<;>rfl
 |e::r,[],s,_=>rfl
 |e::r,x::l,s,h=>by
  cases x with
  |v σ x=>
   show nth .bu (match dy σ (.sl e) x with|some x=>jt r l (s.new (.row e x))|none=>s).hp j=_;cases dy σ (.sl e) x with
   |none=>rfl
   |some y=>
    refine(yL r l (s.new (.row e y)) ?_).trans ?_
    ·show j<(s.hp++[_]).length;rw[ado];omega
    ·show nth .bu (s.hp++[_]) j=_;rw[dF,adp h]
  |_=>rfl
theorem Ct {sh:Sh} {x:fE.T sh.iY} {s:TS} {j:Nat} (h:j∉sh.bP.map (·.1)) (hj:j<s.hp.length):nth .bu (dt sh x s).hp j=nth .bu s.hp j:=by
 unfold dt;dsimp only;have hl:=uM (f:=λk=>TV.r (s.hp.length+k)) sh.loc (ga sh.iY x) s.fr s.hp s.hp;have e:(⟨s.fr,s.hp⟩:TS)=s:=rfl;rw[e] at hl;have hl:=congrArg (λp=>p.1.hp) hl;generalize mo (λk=>TV.r (s.hp.length+k)) sh.loc (ga sh.iY x) s=A at hl⊢;obtain⟨s1,l1⟩:=A;have hl:s1.hp=s.hp:=hl;dsimp only;have g1:=yK (f:=λk=>TV.r (s.hp.length+k)) sh.bP l1 s1 h;have g2:=(sD (f:=λk=>TV.r (s.hp.length+k)) (W:=sh.bP.map (·.1)) sh.bP l1 s1 (λy hy=>List.mem_map_of_mem hy)).2;generalize iQ (λk=>TV.r (s.hp.length+k)) sh.bP l1 s1=A at g1 g2⊢;obtain⟨s2,l2⟩:=A;have g1:nth .bu s2.hp j=nth .bu s1.hp j:=g1;have g2:s2.hp.length=s1.hp.length:=g2;dsimp only;rw[yL sh.rows l2 s2 (by rw[g2,hl];exact hj),g1,hl]
theorem tH {B0 J:Bs} {U:List Nat} (L:bo B0 J):bo (B0.lock U) J:=
 ⟨λb cs T fz h1 h2=>L.k b cs T fz (λh=>h1 (NS.2 h)) h2,λj h=>by
   obtain⟨k1,k2,k3⟩:=L.e j (λe=>h (EY.2 e));exact⟨k1,k2,by rw[iR,uP];exact k3⟩⟩
theorem Nz {X:Fx} {B0 B':Bs} {U:List Nat} {sh:Sh} {s':TS} {x:fE.T sh.iY} {base:TS} {a':Act} {w':World} (I0:bw X B0) (I':bw (X.tC B0 U) B') (L':bo (B0.lock U) B') (S':gC B' s' a' w') (hp:eD sh s'=some x) (hb:jj B0 U (sh.bP.map (·.1)) base.hp) (hU:∀j∈sh.bP.map (·.1),j∈U) (EP:PZ sh B0.H.length)
 (BD:∀J,bo (B0.lock U) J->∀t,Rv J (nth .bU base.fr t) (a'.tmps.getD t undef)) (hn:base.fr.length<=a'.tmps.size) (hg:∀j,j<B0.H.length->j∉U->nth .bu base.hp j=B0.e j):
 ∃Jl,bo (B0.lock U) Jl/\bw (X.tC B0 U) Jl/\gC Jl (dt sh x ⟨base.fr,cL (sh.bP.map (·.1)) base.hp 0⟩) a' w':=by
 obtain⟨J,is,rn,L,IJ,SJ,E,eJ⟩:=oa I0 I' L' S' hp hb EP (λJ hJ=>BD J (tH hJ)) hn;have hN:base.hp.length=B0.H.length:=hb.1;have hE:=Cu (sh:=sh) (x:=x) (s:=base);rw[hN] at hE;generalize hW:sh.bP.map (·.1)++List.range' B0.H.length sh.rows.length=W at hE;have hH:(dt sh x base).hp=J.H:=SJ.H;have Ll:=pK (B:=J) (U:=W);have Il:=IJ.lock W;have S'H:=S'.H;have eb:∀j,j<B0.H.length->J.b j=B0.b j:=λj hj=>by rw[eJ];exact iu I0 hj
 have memW:∀{j},j∈W->j<B0.H.length->j∈sh.bP.map (·.1):=λ{j} h hj=>by
  rw[<-hW] at h;exact(adC.1 h).resolve_right λk=>by
   obtain⟨k1,_⟩:=List.mem_range'_1.1 k;omega
 have JF:J.F0=B'.F0:=by rw[eJ];rfl
 have Jw:J.w=B'.w:=by rw[eJ];rfl
 refine⟨J.lock W,tH (L.trans Ll),⟨Il.len,Il.bP,Il.inj,λj b s h1 h2=> ?_,λj b s h1 h2=> ?_,λb h=> ?_,?_,λb h=>I'.xo b h,?_,?_,λx hx=>(by cases hx),λy hy=> ?_⟩,?_⟩
 ·rw[iR] at h1;have h3:J.b j=some (b,s):=h2;rcases dD W (J.e j) j with⟨e1,e2⟩|⟨_,e2,_⟩;rotate_left
  ·rw[e2] at h1;exact absurd h1 (show¬2=1 by decide)
  rw[e1] at h1;have hm:=dz.1 (e2 h1)
  by_cases hj:j<B0.H.length
  ·obtain⟨t,c,md,rn',l,i',rn1,g1,_⟩:=E.ks j hj (memW hm hj);have g1:B'.e j=⟨1, .box t c⟩:=by show nth .bu B'.H j=_;rw[<-S'H];exact g1
   obtain⟨k1,k2,_,_⟩:=uC I0 I' L' S'H E hj g1;rw[eb j hj] at h3;exactλhk=>hk.2 j s k2 k1 h3
  ·have iJ:j<J.H.length:=jB (xM (by rw[h1];decide));rw[<-hH,E.len] at iJ;have ej:j=B0.H.length+(j-B0.H.length):=ade;rw[ej,eJ] at h3;obtain⟨j',n,e,r,_,q2,q3⟩:=jF I0 I' L' S'H E ade h3;exact I'.lo j' b s (by rw[q3]) q2
 ·exact IJ.fr j b s (uQ.1 h1) h2
 ·rw[show(J.lock W).w=B'.w from Jw];exact I'.old b h
 ·rw[show(J.lock W).w=B'.w from Jw];exact I'.nx
 ·rw[show(J.lock W).w=B'.w from Jw];exact I'.io
 ·exact JF.trans I'.F0
 ·obtain⟨q1,q2,q3,q4,q5⟩:=CI hy;have hlen:J.H.length=B0.H.length+sh.rows.length:=by rw[<-hH];exact E.len
  have hc:y.1∉U\/(B0.e y.1).st≠1:=by
   by_cases h:(B0.e y.1).st=1
   ·exact .inl (q2 h)
   ·exact .inr h
  have X3:∀e,¬BK s' sh.bP (λk=> .r (B0.H.length+k)) is rn y.1 e:=λe hb=>by
   obtain⟨t,c,md,rn',l,i',rn1,g1,_⟩:=hb;have g1:B'.e y.1=⟨1, .box t c⟩:=by show nth .bu B'.H y.1=_;rw[<-S'H];exact g1
   obtain⟨_,k2,_⟩:=uO (X:=X) rfl I' q1 hc;rw[k2,<-q3] at g1;exact q5 (by rw[g1])
  have hnk:y.1∉sh.bP.map (·.1):=λhk=>X3 _ (E.ks y.1 q1 hk)
  refine⟨by show y.1<(cL W J.H 0).length;rw[lK,hlen];omega,?_,(eb y.1 q1).trans q4.symm,q5⟩;have eJe:J.e y.1=B0.e y.1:=by
   rcases E.lo y.1 q1 with h|⟨h,h'⟩|⟨_,h⟩
   ·exact absurd h (X3 _)
   ·rcases hc with hc|hc
    ·show nth .bu J.H y.1=_;rw[<-hH,Ct hnk (by rw[hN];exact q1)];exact hg _ q1 hc
    ·exact absurd h' hc
   ·show nth .bu J.H y.1=_;rw[<-hH];exact h
  rw[iR,eJe,q3];unfold jW;have m1:fy y.1 W=false:=by
   cases hm:fy y.1 W with
   |false=>rfl
   |true=>exact absurd (memW (dz.1 hm) q1) hnk
  rw[m1];cases hm:fy y.1 U with
  |false=>rfl
  |true=>
   have:=hc.resolve_left (λh=>h (dz.1 hm));show(match(B0.e y.1).st with|1=>(⟨2,(B0.e y.1).b⟩:TE)|_=>B0.e y.1)=B0.e y.1;split
   ·rename_i h;exact absurd h this
   ·rfl
 ·rw[hE];exact⟨by show cL W (dt sh x base).hp 0=cL W J.H 0;rw[hH],SJ.w,SJ.n,λt=>(SJ.sl t).mono Ll,SJ.df⟩
end
noncomputable section
variable [pf]
theorem CN {h:List TE} {j:Nat}:∀(x:TV) (ty:Option Ty) (rows:List Ty),¬Hm j (AG h x ty rows).1:=by
 intro x
 induction x with
 |r i=>
  intro ty rows;unfold AG;split
  ·exact id
  ·cases ty<;>exact id
 |rn i n=>
  intro ty rows;unfold AG;split
  ·exact id
  ·cases ty<;>exact id
 |pr a b i1 i2=>intro ty rows hm;exact hm.elim (i1 _ _) (i2 _ _)
 |nl=>intro ty rows;cases ty<;>exact id
 |rs i m n=>intro ty rows;cases ty<;>exact id
 |_=>intro ty rows;cases ty<;>exact id
theorem sY {s:TS} {j:Nat}:∀(W:List Nat) (rows:List Ty),∀x∈(xg s W rows).1,¬Hm j x.2.2
 |[],_,x,hx=>by cases hx
 |i::r,rows,x,hx=>by
  unfold xg at hx;split at hx
  ·rename_i t c _;have e:(AG s.hp c (some t) rows).1=(AG s.hp c (some t) rows).1:=rfl;rcases adK.1 hx with rfl|hx
   ·exact CN c (some t) rows
   ·exact sY r _ x hx
  ·exact sY r rows x hx
theorem sX {s:TS}:∀(W:List Nat) (rows:List Ty),∀j∈(xg s W rows).1.map (·.1),j∈W
 |[],_,x,hx=>by cases hx
 |i::r,rows,x,hx=>by
  unfold xg at hx;split at hx
  ·rcases adK.1 hx with rfl|hx
   ·exact adt
   ·exact ady _ (sX r _ x hx)
  ·exact ady _ (sX r rows x hx)
section
variable {T:CT}
theorem sZ {s:TS} {wr:List (Nat×TypeId)} {W:List Nat} {lv:Nat} {d:Bool} {j:Nat}:∀(l:List TV) (i:Nat) (rows:List Ty),∀x∈(Dk T s wr W lv d l i rows).1,¬Hm j x.2
 |[],_,_,x,hx=>by cases hx
 |tv::r,i,rows,x,hx=>by
  unfold Dk at hx;dsimp only at hx;cases hc:((cH i wr).isSome||B6 W tv)&&has lv i with
  |false=>rw[hc] at hx;exact sZ r _ rows x hx
  |true=>
   rw[hc,cond_true] at hx;rcases adK.1 hx with rfl|hx
   ·dsimp only;split
    ·split<;>exact id
    ·exact CN _ _ _
   ·exact sZ r _ _ x hx
theorem sf:∀(l:List (Nat×Md)),∀x∈clean l,x∈l
 |[],x,hx=>by cases hx
 |(a,m)::r,x,hx=>by
  have key:x∈clean r\/x∈(a,m)::clean r->x∈(a,m)::r:=λh=>by
   rcases h with h|h
   ·exact ady _ (sf r x h)
   ·rcases adK.1 h with rfl|h
    ·exact adt
    ·exact ady _ (sf r x h)
  cases m<;>first|exact key (.inl hx)|exact key (.inr hx)
theorem rm {s:TS} {wr:List (Nat×TypeId)} {W:List Nat} {lv:Nat} {d:Bool} {n:Nat}:PZ (shape T s wr W lv d) n:=by
 refine⟨λx hx j hj=> ?_,λx hx j hj=>absurd hj (sY W [] x hx)⟩;exact absurd hj (sZ _ _ _ x (sf _ x hx))
theorem oh {t:Nat} {fr:List TV}:∀{l:List Oper} {j:Nat},tJ t fr l= .r j->∃x,nth .bU fr x= .r j
 |[],j,h=>by cases h
 |o::r,j,h=>by
  unfold tJ at h;split at h
  ·rename_i x _ _ _;cases hc:Nat.beq _ t with
   |true=>rw[hc] at h;exact⟨x,h⟩
   |false=>rw[hc] at h;exact oh h
  ·rename_i x _ _ _;cases hc:Nat.beq _ t with
   |true=>rw[hc] at h;exact⟨x,h⟩
   |false=>rw[hc] at h;exact oh h
  ·exact oh h
theorem nw {B:Bs} {s:TS} {a:Act} {w:World} (S:gC B s a w) {ops:List Oper} {lv:Nat}:∀(wr:List (Nat×TypeId)),∀x∈tG T ops s.fr lv wr,∀j,Hm j x.2->j<B.H.length
 |[],x,hx,_,_=>by cases hx
 |(t,y)::r,x,hx,j,hj=>by
  unfold tG at hx;cases hc:has lv t&& !(r.any λz=>Nat.beq z.1 t) with
  |false=>rw[hc] at hx;exact nw S r x hx j hj
  |true=>
   rw[hc,cond_true] at hx;split at hx
   ·rename_i i hi;rcases adK.1 hx with rfl|hx
    ·have hj:j=i:=hj;subst hj;obtain⟨q,hq⟩:=oh hi;have:=S.sl q;rw[hq] at this;exact jB (d7 rfl rfl this).2.1
    ·exact nw S r x hx j hj
   ·rcases adK.1 hx with rfl|hx
    ·exact hj.elim
    ·exact nw S r x hx j hj
   ·exact nw S r x hx j hj
end
theorem zO {X:Fx} {B J:Bs} {n0:Nat} {rnf:Rn} (I:bw X B) (Hd:Hand B J n0 rnf):∀(rs:List Ty) (res:TV) {r:List TV} {vs:List Value},Bx B.H rs res=some r->(∀j∈ids res,∀b s,B.b j=some (b,s)->¬J.F b)->Rl B res vs->Rl J (AB r) vs
 |[],res,r,vs,h,_,hr=>by
  cases res<;>first|cases h|skip
  exact hr
 |a::rs,res,r,vs,h,hi,hr=>by
  cases res<;>first|cases h|skip
  rename_i x y;obtain⟨hp,h⟩:=aQ h;split at h;rotate_left
  ·cases h
  rename_i p l hx hl;cases h;obtain⟨v,q,e,h1,h2⟩:=hr;refine⟨v,q,e,?_,zO I Hd rs y hl (λj hj=>hi j (adH _ hj)) h2⟩;exact(rT.v a x p rnf hp (du a x hx)).rv I Hd (iI.refl _) (λ_ h=>h.elim) (λj hj=>hi j (adM _ hj)) h1.rv
theorem tV {H:List TE}:∀(rs:List Ty) (res:TV) {r:List TV},Bx H rs res=some r->∀j∈ids res,∃e l,(nth .bu H j).b= .row e l
 |[],res,r,h,j,hj=>by
  cases res<;>first|cases h|skip
  cases hj
 |a::rs,res,r,h,j,hj=>by
  cases res<;>first|cases h|skip
  rename_i x y;obtain⟨hp,h⟩:=aQ h;split at h;rotate_left
  ·cases h
  rename_i p l hx hl;rcases adC.1 hj with hj|hj
  ·exact(du a x hx).rows j hj
  ·exact tV rs y hl j hj
theorem ES {X:Fx} {B0 B':Bs} {U:List Nat} {sh:Sh} {rs:List Ty} {s':TS} {x:fE.T (nF sh rs)} {base:TS} {res:TV} {vs:List Value} (I0:bw X B0) (I':bw (X.tC B0 U) B') (L':bo (B0.lock U) B') (hs:s'.hp=B'.H) (hr:Rl B' res vs) (hp:k8 sh rs res s'=some x) (hb:jj B0 U (sh.bP.map (·.1)) base.hp) (EP:∀x∈sh.bP,∀j,Hm j x.2.2->j<B0.H.length):
 ∃J,bo B0 J/\bw X J/\(kE sh rs x base).2.hp=J.H/\J.w=B'.w/\Rl J (kE sh rs x base).1 vs:=by
 unfold k8 at hp;split at hp;rotate_left
 ·cases hp
 rename_i m i' rn hB;split at hp;rotate_left
 ·cases hp
 rename_i q r h hR hT hz;obtain⟨dj,hk⟩:=aQ hp;have PB:=sR _ _ hB;have hx:=nE _ _ hk;have hl:rn.length=sh.rows.length:=by rw[PB.sub.2.1,ae0]
 have hN:=hb.1;obtain⟨E,_,j3⟩:=PB.Tz hs (U:=U) hR hl hb r;have kY:∀k j n,nth none rn k=some (j,n)->(nth .bu h j).st=1:=λk j n e=>adu (FP dj e)
 have D:gH rn:=PB.sub.2.2 (gH.start _);have Av:=CA I0 I' L' hs E hz kY (λj hj=>(adC.1 hj).elim (PB.rows j) (λhj=>by rw[hs] at hT;rw[hs];exact tV rs res hT j hj));have Hd:=sG I0 I' L' hs E;have ei:kE sh rs x base=(AB r,jt sh.rows (q++r) (iQ (λk=> .r (B0.H.length+k)) sh.bP (m++(q++r)) base).1):=by
  unfold kE;rw[hx,hN];dsimp only;generalize iQ (λk=>TV.r (B0.H.length+k)) sh.bP (m++(q++r)) base=A at j3⊢;obtain⟨s2,l2⟩:=A;have j3:l2=q++r:=j3;subst j3;dsimp only;rw[List.drop_left' (wV _ _ hR).1]
 refine⟨_,pG I0 I' L' hs E,CB I0 I' L' hs E D (λj hj=>Av j (adM _ hj)) EP,by rw[ei];rfl,rfl,?_⟩;rw[ei];rw[hs] at hT;exact zO I' Hd rs res hT (λj hj=>Av j (adH _ hj)) hr
def sU (tmps:Array Value):ResultVar->Sem Value
 | .tmp t=>pure (tmps.getD t undef)
 | .cell a t=>do loadVar t (<-asAddr (tmps.getD a undef))
def Ii (P:Program) (rl:List ResultVar) (a:Act) (w:World) (vs:List Value):Prop:=(rl.mapM (sU a.tmps)).run P w= .ok vs w/\vs.length=rl.length
theorem tM {P:Program} {fn:Func} {a:Act} {w:World} {vs:List Value} (h:Ii P fn.results.toList a w vs):(results fn a.tmps).run P w= .ok (if h:vs.toArray.size=1 then vs.toArray[0] else .tuple vs.toArray) w:=by
 obtain⟨h,_⟩:=h;have e:(fn.results.mapM (sU a.tmps)).run P w= .ok vs.toArray w:=by
  rw[Array.mapM_eq_mapM_toList];simp[h]
 have e2:results fn a.tmps=(do let vs<-fn.results.mapM (sU a.tmps);pure (if h:vs.size=1 then vs[0] else .tuple vs)):=by
  unfold results sU;congr 1
 rw[e2,Sem.run_bind,e];rfl
theorem Js {P:Program} {t:TypeId} {v:Value} {w:World} {r:Value} (h:(Instr.loadAt t v).run P w= .ok r w):(do loadVar t (<-asAddr v):Sem Value).run P w= .ok r w:=by
 have no:(∀ad,v≠ .pointer (some ad))->False:=λhv=>by
  unfold Instr.loadAt Instr.sureAddr at h;split at h
  ·exact hv _ rfl
  ·cases h
 have:∃ad,v= .pointer (some ad):=Classical.byContradiction λhn=>no λad e=>hn ⟨ad,e⟩
 obtain⟨ad,rfl⟩:=this;exact h
theorem tk {B:Bs} {x:TV} {v:Value} (h:k_ x=true) (hv:Rv B x v):Whole x (Rp B x) v:=by
 rw[lx (λy e=>by rw[e] at h;cases h)] at hv;exact hv
theorem rb {ρ:Type} {T:CT} {X:Fx} {B:Bs} {s:TS} {a:Act} {w:World} (I:bw X B) (S:gC B s a w):∀(rl:List ResultVar) {K:TV->R ρ} {y:ρ},sV T s rl K=some y->∃x vs,Ii T.P rl a w vs/\Rl B x vs/\K x=some y
 |[],K,y,h=>⟨.un,[],⟨rfl,rfl⟩,rfl,h⟩
 | .tmp t::r,K,y,h=>by
   obtain⟨hv,h⟩:=aQ (show(bif k_ (nth .bU s.fr t) then sV T s r λy=>K (.pr (nth .bU s.fr t) y) else none)=some y from h);obtain⟨x,vs,⟨h1,h1'⟩,h2,h3⟩:=rb I S r (K:=λy=>K (.pr (nth .bU s.fr t) y)) h;exact⟨.pr (nth .bU s.fr t) x,a.tmps.getD t undef::vs,⟨by simp[List.mapM_cons,sU,h1],congrArg (·+1) h1'⟩,⟨_,_,rfl,tk hv (S.sl t),h2⟩,h3⟩
 | .cell t ty::r,K,y,h=>by
   have h:nJ T s ty (nth .bU s.fr t) (λx=>bif k_ x then sV T s r λy=>K (.pr x y) else none)=some y:=h;rw[ox] at h;cases hl:nJ T s ty (nth .bU s.fr t) gz with
   |none=>rw[hl] at h;cases h
   |some tv=>
    rw[hl] at h;obtain⟨hv,h⟩:=aQ (show(bif k_ tv then sV T s r λy=>K (.pr tv y) else none)=some y from h);have hlv:=xp hl;have hH:=S.H;obtain⟨v,g1,g2⟩:=Dx hl I (by rw[hH] at hlv⊢;exact rZ.refl hlv) (S.sl t);obtain⟨x,vs,⟨h1,h1'⟩,h2,h3⟩:=rb I S r (K:=λy=>K (.pr tv y)) h;have hw:B.w=w:=S.w;rw[hw] at g1;have g3:(sU a.tmps (.cell t ty)).run T.P w= .ok v w:=Js g1;exact⟨.pr tv x,v::vs,⟨by rw[List.mapM_cons,Sem.run_bind,g3];simp[h1],congrArg (·+1) h1'⟩,⟨_,_,rfl,tk hv g2,h2⟩,h3⟩
end
noncomputable section
variable [pf]
def xY (Q:Exit->Act->World->Prop) (m:Nat):Act->World->Prop:=if m %2=0 then Q (.exit (m/2)) else Q (.goto (m/2))
theorem Cj {Q:Exit->Act->World->Prop} (i:Nat):xY Q (2*i)=Q (.exit i):=by
 unfold xY;rw[adp (Nat.mul_mod_right 2 i),Nat.mul_div_cancel_left i (by decide)]
theorem vW {Q:Exit->Act->World->Prop} (i:Nat):xY Q (2*i+1)=Q (.goto i):=by
 unfold xY;rw[adi,show(2*i+1)/2=i by omega]
theorem vY {N:Act->World->Prop} {Q:Exit->Act->World->Prop} (m:Nat):xY (Exit.then N Q) m=xY Q m:=by
 unfold xY;split<;>rfl
theorem yG {Q:Exit->Act->World->Prop} {i m:Nat} {a:Act} {w:World} (h:xY Q m a w) (hm:m≠2*i):xY (Exit.inBlock i Q) m a w:=by
 unfold xY at h⊢;split
 ·rename_i e;rw[adp e] at h;show if m/2=i then Q .normal a w else Q (.exit (m/2)) a w
  rw[adi];exact h
 ·rename_i e;rw[adq e] at h;exact h
theorem vX {Q:Exit->Act->World->Prop} {i:Nat} {a:Act} {w:World} (h:Q .normal a w):xY (Exit.inBlock i Q) (2*i) a w:=by
 rw[Cj];show if i=i then Q .normal a w else _
 rw[adp rfl];exact h
structure rS {ρ:Type} (T:CT) (X:Fx) (B:Bs) (wr:List (Nat×TypeId)) (a:Act) (E:Go) (K:KT ρ) (y:ρ) (Q:Exit->Act->World->Prop):Prop where
 k:∀B' s' a' w',bo B B'->bw X B'->gC B' s' a' w'->dO wr a a'->K.k s'=some y->Q .normal a' w'
 ex:∀m B' s' a' w',bo B B'->bw X B'->gC B' s' a' w'->dO wr a a'->mH m K.ex s'=some y->xY Q m a' w'
 rt:∀B' s' a' w' x vs,bo B B'->bw X B'->s'.hp=B'.H->B'.w=w'->dO wr a a'->a'.defers=pf.ds->Ii T.P E.rl a' w' vs->Rl B' x vs->K.rt x s'=some y->Q .ret a' w'
section
variable {ρ:Type} {T:CT} {X:Fx} {B:Bs} {wr wr':List (Nat×TypeId)} {a:Act} {w:World} {E:Go} {K:KT ρ} {y:ρ} {Q:Exit->Act->World->Prop} {s:TS}
theorem rS.left (h:rS T X B (wr++wr') a E K y Q):rS T X B wr a E K y Q:=
 ⟨λB' s' a' w' L I S k=>h.k B' s' a' w' L I S k.left,λm B' s' a' w' L I S k=>h.ex m B' s' a' w' L I S k.left,λB' s' a' w' x vs L I hs hw k=>h.rt B' s' a' w' x vs L I hs hw k.left⟩
theorem rS.right (h:rS T X B (wr++wr') a E K y Q):rS T X B wr' a E K y Q:=
 ⟨λB' s' a' w' L I S k=>h.k B' s' a' w' L I S k.right,λm B' s' a' w' L I S k=>h.ex m B' s' a' w' L I S k.right,λB' s' a' w' x vs L I hs hw k=>h.rt B' s' a' w' x vs L I hs hw k.right⟩
theorem rS.wq {B':Bs} (h:rS T X B wr a E K y Q) (L0:bo B B'):rS T X B' wr a E K y Q:=
 ⟨λB' s' a' w' L=>h.k B' s' a' w' (L0.trans L),λm B' s' a' w' L=>h.ex m B' s' a' w' (L0.trans L),λB' s' a' w' x vs L=>h.rt B' s' a' w' x vs (L0.trans L)⟩
theorem gC.lock (S:gC B s a w) (U:List Nat):gC (B.lock U) ⟨s.fr,cL U s.hp 0⟩ a w:=
 ⟨by show cL U s.hp 0=cL U B.H 0;rw[S.H],S.w,S.n,λt=>(S.sl t).mono pK,S.df⟩
theorem FT {W:List Nat} {bP:List (Nat×Ty×Md)} {rn:Rn} {h:List TE} {fr:List TV}:(c_ wr W bP rn fr h).fr=kz wr fr 0:=rfl
theorem B8 {bP:List (Nat×Ty×Md)} {j:Nat} {n:Option N}:∀{rn:Rn} {k:Nat},nth none rn k=some (j,n)->j∈cA bP rn
 |[],_,h=>by cases h
 |none::r,0,h=>by cases h
 |none::r,k+1,h=>B8 (rn:=r) (k:=k) h
 |some (i,x)::r,0,h=>by
  have h:some (i,x)=some (j,n):=h;cases h;exact adH _ adt
 |some (i,x)::r,k+1,h=>by
  rcases adC.1 (B8 (bP:=bP) (rn:=r) (k:=k) h) with h|h
  ·exact adM _ h
  ·exact adH _ (ady _ h)
theorem Kw {W:List Nat} {bP:List (Nat×Ty×Md)} {rn:Rn} {fr:List TV} {h:List TE} {j:Nat} (hj:j∉W++cA bP rn):nth .bu (c_ wr W bP rn fr h).hp j=nth .bu h j:=by
 rcases(ql (wr:=wr) (W:=W) (bP:=bP) (rn:=rn) (fr:=fr) (h:=h)).2 j with⟨_,_,h3⟩|⟨h1,_⟩
 ·refine absurd ?_ hj;rcases h3 with h3|⟨k,n,h3⟩
  ·exact adM _ h3.1
  ·exact adH _ (B8 h3)
 ·exact h1
section
variable (I:bw X B) (S:gC B s a w) {W:List Nat} {lv:Nat} {d:Bool} {rn:Rn} {B':Bs} {s':TS} {a':Act} {w':World}
include I S
theorem Fj (hk:rS T X B wr a E K y Q) (L':bo (B.lock (W++cA (shape T s wr W lv d).bP rn)) B') (I':bw (X.tC B (W++cA (shape T s wr W lv d).bP rn)) B') (S':gC B' s' a' w') (k:dO wr a a')
 {x:fE.T (shape T s wr W lv d).iY} (hp:eD (shape T s wr W lv d) s'=some x) (hy:K.k (dt (shape T s wr W lv d) x (c_ wr W (shape T s wr W lv d).bP rn s.fr s.hp))=some y):Q .normal a' w':=by
 obtain⟨J,_,_,L,IJ,SJ,_,_⟩:=oa I I' L' S' hp (se S.H) rm (λJ hJ t=>rK S hJ k t) (by rw[FT,lY,k.1];exact S.n);exact hk.k J _ a' w' L IJ SJ k hy
theorem OE {lvx:Nat} {dx:Bool} {rnx:Rn} {m:Nat} (hk:rS T X B wr a E K y Q) (L':bo (B.lock (W++cA (shape T s wr W lv d).bP rn)) B') (I':bw (X.tC B (W++cA (shape T s wr W lv d).bP rn)) B') (S':gC B' s' a' w') (k:dO wr a a')
 {x:fE.T (shape T s wr W lvx dx).iY} (hp:eD (shape T s wr W lvx dx) s'=some x) (hy:mH m K.ex (dt (shape T s wr W lvx dx) x ⟨(c_ wr W (shape T s wr W lv d).bP rn s.fr s.hp).fr,nk rnx (c_ wr W (shape T s wr W lv d).bP rn s.fr s.hp).hp⟩)=some y):xY Q m a' w':=by
 have hb:jj B (W++cA (shape T s wr W lv d).bP rn) ((shape T s wr W lvx dx).bP.map (·.1)) (nk rnx (c_ wr W (shape T s wr W lv d).bP rn s.fr s.hp).hp):=Ip S.H;obtain⟨J,_,_,L,IJ,SJ,_,_⟩:=oa (base:=⟨(c_ wr W (shape T s wr W lv d).bP rn s.fr s.hp).fr,nk rnx (c_ wr W (shape T s wr W lv d).bP rn s.fr s.hp).hp⟩) I I' L' S' hp hb rm (λJ hJ t=>rK S hJ k t) (by show(kz wr s.fr 0).length<=_;rw[lY,k.1];exact S.n);exact hk.ex m J _ a' w' L IJ SJ k hy
theorem XA {sh:Sh} (he:sh=shape T s wr W lv d) (hk:rS T X B wr a E K y Q) (L':bo (B.lock (W++cA sh.bP rn)) B') (I':bw (X.tC B (W++cA sh.bP rn)) B') (hs:s'.hp=B'.H) (hw:B'.w=w') (kp:dO wr a a') (hd:a'.defers=pf.ds) {res:TV} {vs:List Value} (hR:Ii T.P E.rl a' w' vs) (hr:Rl B' res vs)
 {x:fE.T (nF (BH E sh) E.rs)} (hp:k8 (BH E sh) E.rs res s'=some x) (hy:(match kE (BH E sh) E.rs x (bif E.top then⟨(c_ wr W sh.bP rn s.fr s.hp).fr,qE (sh.bP.map (·.1)) [] (c_ wr W sh.bP rn s.fr s.hp).hp⟩ else c_ wr W sh.bP rn s.fr s.hp) with|(r,s)=>K.rt r s)=some y):Q .ret a' w':=by
 have key:∀{base:TS} {shh:Sh} {x:fE.T (nF shh E.rs)},k8 shh E.rs res s'=some x->jj B (W++cA sh.bP rn) (shh.bP.map (·.1)) base.hp->(∀x∈shh.bP,∀j,Hm j x.2.2->j<B.H.length)->K.rt (kE shh E.rs x base).1 (kE shh E.rs x base).2=some y->Q .ret a' w':=λh1 h2 h3 h4=>by
  obtain⟨J,L,IJ,e1,e2,e3⟩:=ES I I' L' hs hr h1 h2 h3;exact hk.rt J _ a' w' _ vs L IJ e1 (e2.trans hw) kp hd hR e3 h4
 unfold BH at x hp hy;cases ht:E.top with
 |true=>
  revert x hp hy;rw[ht];intro x hp hy;exact key hp (Iq S.H) (λx hx=>by cases hx) hy
 |false=>
  revert x hp hy;rw[ht];intro x hp hy;subst he;exact key (shh:=⟨(shape T s wr W lv d).rows,[],(shape T s wr W lv d).bP⟩) hp (se S.H) (rm (T:=T) (s:=s) (wr:=wr) (W:=W) (lv:=lv) (d:=d) (n:=B.H.length)).2 hy
theorem uS (L':bo (B.lock (W++cA (shape T s wr W lv d).bP rn)) B') (I':bw (X.tC B (W++cA (shape T s wr W lv d).bP rn)) B') (S':gC B' s' a' w') (k:dO wr a a')
 {x:fE.T (shape T s wr W lv d).iY} (hp:eD (shape T s wr W lv d) s'=some x):
 ∃Jl,bo (B.lock (W++cA (shape T s wr W lv d).bP rn)) Jl/\bw (X.tC B (W++cA (shape T s wr W lv d).bP rn)) Jl/\gC Jl (dt (shape T s wr W lv d) x ⟨(c_ wr W (shape T s wr W lv d).bP rn s.fr s.hp).fr,cL ((shape T s wr W lv d).bP.map (·.1)) (c_ wr W (shape T s wr W lv d).bP rn s.fr s.hp).hp 0⟩) a' w':=by
 refine Nz I I' L' S' hp (se S.H) (λj hj=>adM _ (sX _ _ j hj)) rm (λJ hJ t=> ?_) (by rw[FT,lY,k.1];exact S.n) (λj _ hj=>by rw[Kw hj,S.H];rfl);exact rK (S.lock (W++cA (shape T s wr W lv d).bP rn)) hJ k t
end
end
theorem AM {nm:String} {E:Go} {sh shx:Sh} {s:TS} {r:Kl E sh shx} (h:Ot nm E sh shx s=some r):∃x,eD sh s=some x/\r= .ok x:=by
 unfold Ot at h;split at h
 ·rename_i x e;exact⟨x,e,(Option.some.inj h).symm⟩
 ·cases h
theorem A8 {nm:String} {E:Go} {sh shx:Sh} {s:TS} {r:Kl E sh shx} (h:SS nm E sh shx s=some r):∃x,eD shx s=some x/\r= .ex x:=by
 unfold SS at h;split at h
 ·rename_i x e;exact⟨x,e,(Option.some.inj h).symm⟩
 ·cases h
theorem Bb {nm:String} {E:Go} {sh shx:Sh} {res:TV} {s:TS} {r:Kl E sh shx} (h:Ur nm E sh shx res s=some r):∃x,k8 (BH E sh) E.rs res s=some x/\r= .rt x:=by
 unfold Ur at h;split at h
 ·rename_i x e;exact⟨x,e,(Option.some.inj h).symm⟩
 ·cases h
end
noncomputable section
variable [pf]
theorem xF:∀{l:List Oper} {o:Oper} {t:Nat},o∈l->o.dst=some t->cH t (l.filterMap λo=>match o.dst with|some d=>some (d,o.type)|none=>none)≠none
 |[],o,t,ho,hd=>by cases ho
 |a::r,o,t,ho,hd=>by
  rw[List.filterMap_cons];rcases adK.1 ho with rfl|ho
  ·rw[hd];show(bif Nat.beq t t then some _ else _)≠none;rw[Nat.beq_refl];exactλh=>by cases h
  ·cases hx:a.dst with
   |none=>exact xF ho hd
   |some x=>
    show(bif Nat.beq x t then some _ else _)≠none;cases Nat.beq x t with
    |true=>exactλh=>by cases h
    |false=>exact xF ho hd
theorem BA {id:Nat} {ops:Array Oper} {d:Bool} {o:Oper} {t:Nat} (ho:o∈ops.toList) (hd:o.dst=some t):cH t (cn (.region id ops d))≠none:=xF ho hd
def a9m (T:CT) {ρ:Type} (call:eZ ρ) (ops:Array Oper) (d:Bool) (s:TS) (F:TS->R ρ):R ρ:=
 let l:=ops.toList;let dr:=order ops.size 0 (Y8 T.P ops (pN l [] 0).reverse l 0)
 bif d then(bif kQ l 0&&vA dr ops.size then kX T call ops dr [] [] s λs=>(match l7 T l s with|some s=>F s|none=>none) else none) else vU T call ops l s F
def oV (T:CT) (d:Bool):Prop:=∀{ρ:Type} {call:{ρ:Type}->eZ ρ} {X:Fx} {B:Bs} {id:Nat} {ops:Array Oper} {s:TS} {a:Act} {w:World} {r:Option Nat} {n:Nat} {F:TS->R ρ} {y:ρ} {Q:Exit->Act->World->Prop},jk T.P call->bw X B->gC B s a w->a9m T call ops d s F=some y->
 (∀B' s' a' w',bo B B'->bw X B'->gC B' s' a' w'->dO (cn (.region id ops d)) a a'->F s'=some y->Q .normal a' w')->(Code.region id ops d).wpIn (Wf r) n T.P Q a w
theorem JJ {T:CT} (hd:20<=T.P.depth):oV T false:=by
 intro ρ call X B id ops s a w r n F y Q hc I S h hK;have h:vU T call ops ops.toList s F=some y:=h;refine wpIn_region ?_;have:=qD (ops:=ops) (r:=r) (n:=n) (Q:=Q) (wr:=cn (.region id ops false)) hd hc ops.toList 0 (λk o hk=>by rw[adI];simpa using hk) (λo ho d hd=>BA ho hd) I S h hK;rw[Array.length_toList,<-List.range_eq_range'] at this;exact this
theorem CF {p:Nat->Prop} (h:∃n,p n):∃n,p n/\∀m,p m->n<=m:=by
 obtain⟨n,hn⟩:=h
 induction n using Nat.strongRecOn with
 |_ n ih=>
  by_cases h:∃m,m<n/\p m
  ·obtain⟨m,hm,hp⟩:=h;exact ih m hm hp
  ·exact⟨n,hn,λm hm=>Nat.le_of_not_lt λiJ=>h ⟨m,iJ,hm⟩⟩
open Classical in
noncomputable def least (p:Nat->Prop):Nat:=if h:∃n,p n then Classical.choose (CF h) else 0
theorem wx {p:Nat->Prop} {n:Nat} (h:p n):p (least p)/\least p<=n:=by
 have he:∃n,p n:=⟨n,h⟩;unfold least;rw[dif_pos he];obtain⟨h1,h2⟩:=Classical.choose_spec (CF he);exact⟨h1,h2 n h⟩
theorem nP {Fc:Fence} {n:Nat} {P:Program} {c:Code} {Q:Exit->Act->World->Prop} (J:Nat->Act->World->Prop) (h0:∀a w,¬J 0 a w) (round:∀N a w,J (N+1) a w->c.wpIn Fc n P (Exit.then (J N) Q) a w) {N:Nat} {a:Act} {w:World} (h:J N a w):(Code.loop c).wpIn Fc n P Q a w:=by
 refine wpIn_loop (λa w=>∃N,J N a w) (λa w=>least λN=>J N a w) ⟨N,h⟩ λa w ⟨M,hM⟩=> ?_
 obtain⟨h1,_⟩:=wx (p:=λN=>J N a w) hM;cases hl:least (λN=>J N a w) with
 |zero=>rw[hl] at h1;exact absurd h1 (h0 a w)
 |succ L=>
  rw[hl] at h1;refine wpIn_mono (round L a w h1) λe a' w' hq=> ?_
  cases e with
  |normal=>
   refine⟨⟨L,hq⟩,?_⟩;have:=(wx (p:=λN=>J N a' w') hq).2;show least (λN=>J N a' w')<L+1;omega
  |_=>exact hq
theorem mi {ρ:Type} {m n lv:Nat} {k:TS->R ρ} {s:TS} {y:ρ} {l:List (Nat×Nat×(TS->R ρ))} (h:mH m ((n,lv,k)::l) s=some y):(m=n/\k s=some y)\/(m≠n/\mH m l s=some y):=by
 have h:(bif Nat.beq n m then k else mH m l) s=some y:=h;cases e:Nat.beq n m with
 |true=>rw[e] at h;exact .inl ⟨(adu e).symm,h⟩
 |false=>
  rw[e] at h;refine .inr ⟨λh'=> ?_,h⟩;rw[h',Nat.beq_refl] at e;cases e
theorem kT {ρ:Type} {m:Nat} {s:TS} {y:ρ} (h:mH m [] s=some y):False:=by cases h
theorem Ku {B:Bs} {s:TS} {a:Act} {w:World} {c:Operand} {b:Bool} (S:gC B s a w) (hx:dn s c= .v .b b):gC B (Q2 c b s) a w:=by
 cases c with
 |tmp i=>exact S.assume hx
 |_=>exact S
section
variable {ρ:Type} {T:CT} {X:Fx} {B:Bs} {wr:List (Nat×TypeId)} {a:Act} {w:World} {E:Go} {K:KT ρ} {y:ρ} {Q:Exit->Act->World->Prop} {s:TS} {W:List Nat} {lv:Nat} {d:Bool} {rn:Rn}
section
variable {B':Bs} {s':TS} {a':Act} {w':World} (I:bw X B) (S:gC B s a w) (hk:rS T X B wr a E K y Q) (L':bo (B.lock (W++cA (shape T s wr W lv d).bP rn)) B') (I':bw (X.tC B (W++cA (shape T s wr W lv d).bP rn)) B')
include I S hk L' I'
theorem HA {e:Option Nat} {lvx:Nat} {dx:Bool} {rnx:Rn} {x:fE.T (shape T s wr W lvx dx).iY} (hy:Ox e K (shape T s wr W lvx dx) (c_ wr W (shape T s wr W lv d).bP rn s.fr s.hp) rnx x=some y) (S':gC B' s' a' w') (k:dO wr a a') (hp:eD (shape T s wr W lvx dx) s'=some x):∃n,e=some n/\xY Q n a' w':=by
 cases e with
 |none=>cases hy
 |some n=>exact⟨n,rfl,OE I S hk L' I' S' k hp hy⟩
theorem AS {b:Bool} {x:fE.T (nF (BH E (shape T s wr W lv d)) E.rs)} (hy:Fh b E K (shape T s wr W lv d) (c_ wr W (shape T s wr W lv d).bP rn s.fr s.hp) x=some y) (hs:s'.hp=B'.H) (hw:B'.w=w') (kp:dO wr a a') (hd:a'.defers=pf.ds) {res:TV} {vs:List Value} (hR:Ii T.P E.rl a' w' vs) (hr:Rl B' res vs) (hp:k8 (BH E (shape T s wr W lv d)) E.rs res s'=some x):Q .ret a' w':=by
 obtain⟨_,hy⟩:=aQ hy;exact XA I S rfl hk L' I' hs hw kp hd hR hr hp hy
end
variable (I:bw X B) (S:gC B s a w) (hk:rS T X B wr a E K y Q)
include I S hk
theorem wi {x:fE.T (shape T s wr W lv d).iY} (hy:K.k (dt (shape T s wr W lv d) x (c_ wr W (shape T s wr W lv d).bP rn s.fr s.hp))=some y) {Q':Exit->Act->World->Prop} {ok:TS->R (fE.T (shape T s wr W lv d).iY)} (yI:∀s' x,ok s'=some x->eD (shape T s wr W lv d) s'=some x) (hQ:∀a w,Q .normal a w->Q' .normal a w) {exs:List (Nat×Nat×(TS->R (fE.T (shape T s wr W lv d).iY)))} (hex:∀m s',mH m exs s'=some x->ok s'=some x/\∀a w,Q .normal a w->xY Q' m a w):
 rS T (X.tC B (W++cA (shape T s wr W lv d).bP rn)) (B.lock (W++cA (shape T s wr W lv d).bP rn)) wr a E ⟨ok,exs,λ_ _=>none⟩ x Q':=
 ⟨λB' s' a' w' L' I' S' k hp=>hQ _ _ (Fj I S hk L' I' S' k (yI _ _ hp) hy),λm B' s' a' w' L' I' S' k hp=>(hex m s' hp).2 _ _ (Fj I S hk L' I' S' k (yI _ _ (hex m s' hp).1) hy),λ_ _ _ _ _ _ _ _ _ _ _ _ _ _ h=>by cases h⟩
theorem wj {nm nm' nm2:String} {e:Option Nat} {b:Bool} {lvx:Nat} {dx:Bool} {rnx:Rn} {r:Kl E (shape T s wr W lv d) (shape T s wr W lvx dx)} (hy:(LR.rec (motive:=λ_=>R ρ) (λx=>K.k (dt (shape T s wr W lv d) x (c_ wr W (shape T s wr W lv d).bP rn s.fr s.hp))) (Ox e K (shape T s wr W lvx dx) (c_ wr W (shape T s wr W lv d).bP rn s.fr s.hp) rnx) (Fh b E K (shape T s wr W lv d) (c_ wr W (shape T s wr W lv d).bP rn s.fr s.hp)) r)=some y)
 {Q':Exit->Act->World->Prop} (hQ:∀a w,Q .normal a w->Q' .normal a w) (hQr:∀a w,Q .ret a w->Q' .ret a w) {exs:List (Nat×Nat×(TS->R (Kl E (shape T s wr W lv d) (shape T s wr W lvx dx))))} (hex:∀m s',mH m exs s'=some r->(Ot nm' E (shape T s wr W lv d) (shape T s wr W lvx dx) s'=some r/\∀a w,Q .normal a w->xY Q' m a w)\/(m=e.getD 0/\SS nm2 E (shape T s wr W lv d) (shape T s wr W lvx dx) s'=some r/\∀a w,xY Q m a w->xY Q' m a w)):
 rS T (X.tC B (W++cA (shape T s wr W lv d).bP rn)) (B.lock (W++cA (shape T s wr W lv d).bP rn)) wr a E ⟨Ot nm E (shape T s wr W lv d) (shape T s wr W lvx dx),exs,Ur nm E (shape T s wr W lv d) (shape T s wr W lvx dx)⟩ r Q':=by
 have kk:∀{B' s' a' w' nm},bo (B.lock (W++cA (shape T s wr W lv d).bP rn)) B'->bw (X.tC B (W++cA (shape T s wr W lv d).bP rn)) B'->gC B' s' a' w'->dO wr a a'->Ot nm E (shape T s wr W lv d) (shape T s wr W lvx dx) s'=some r->Q .normal a' w':=λL' I' S' k hp=>by
  obtain⟨x,h1,h2⟩:=AM hp;rw[h2] at hy;exact Fj I S hk L' I' S' k h1 hy
 refine⟨λB' s' a' w' L' I' S' k hp=>hQ _ _ (kk L' I' S' k hp),λm B' s' a' w' L' I' S' k hp=> ?_,λB' s' a' w' res vs L' I' hs hw kp hd hR hr hp=> ?_⟩
 ·rcases hex m s' hp with⟨h1,h2⟩|⟨h1,h2,h3⟩
  ·exact h2 _ _ (kk L' I' S' k h1)
  ·obtain⟨x,g1,g2⟩:=A8 h2;rw[g2] at hy;obtain⟨n,e1,e2⟩:=HA I S hk L' I' hy S' k g1;subst e1;have h1:m=n:=h1;subst h1;exact h3 _ _ e2
 ·obtain⟨x,g1,g2⟩:=Bb hp;rw[g2] at hy;exact hQr _ _ (AS I S hk L' I' hy hs hw kp hd hR hr g1)
end
section scope
variable {P:Program} {b:Frame} {a:Act} {k:List Item} {cs:List Frame} {w:World}
theorem Dn {c:Code}:step P (Go.lone (b.atR a (.code (.scope c)::k)) cs w)= .next (Go.lone (b.atR a (.code c:: .inScope c::k)) cs w):=
 step_lone_go (by simp[stepG,stepG.exec,Frame.atR])
theorem yb {c:Code}:step P (Go.lone (b.atR a (.inScope c::k)) cs w)= .next (Go.lone (b.atR a k) cs w):=
 step_lone_go (by simp[stepG,stepG.exec,Frame.atR])
end scope
def zE (c:Code) (K:Code->Act->World->Prop) (Q:Exit->Act->World->Prop):Exit->Act->World->Prop
 | .goto l,a,w=>(∃rest,findLabel c l=some rest/\K rest a w)\/(findLabel c l=none/\Q (.goto l) a w)
 |e,a,w=>Q e a w
theorem FI {Fc:Fence} {n:Nat} {P:Program} {c:Code} {Q:Exit->Act->World->Prop} (K:Nat->Code->Act->World->Prop) (h0:∀d a w,¬K 0 d a w) (hs:∀N d a w,K (N+1) d a w->d.wpIn Fc n P (zE c (K N) Q) a w) {N:Nat} {a:Act} {w:World} (h:K N c a w):(Code.scope c).wpIn Fc n P Q a w:=by
 intro b k cs hro hb hr;have key:∀N d a w,K N d a w->∃e a' w',Q e a' w'/\ArrivesIn (Machine.fenced P Fc) P (Go.lone (b.atR a (.code d:: .inScope c::k)) cs w) b k cs e a' w':=by
  intro N
  induction N with
  |zero=>intro d a w h;exact absurd h (h0 d a w)
  |succ N ih=>
   intro d a w h;obtain⟨e,a₁,w₁,hq,v_⟩:=hs N d a w h b (.inScope c::k) cs hro hb hr;cases e with
   |normal=>exact⟨.normal,a₁,w₁,hq,StepsIn.trans v_ (.one (fenced_calm hb hr rfl) yb)⟩
   |exit id=>
    have hx:exitTo id (.inScope c::k)=exitTo id k:=by simp[exitTo]
    exact⟨.exit id,a₁,w₁,hq,λk' hk=>v_.1 k' (by rw[hx];exact hk),λhr' hk=>v_.2 hr' (by rw[hx];exact hk)⟩
   |goto l=>
    rcases hq with⟨rest,hf,hK⟩|⟨hf,hq⟩
    ·have hg:gotoIn l (.inScope c::k)=some (.code rest:: .inScope c::k):=by simp[gotoIn,hf]
     obtain⟨e₂,a₂,w₂,hq₂,harr₂⟩:=ih rest a₁ w₁ hK;exact⟨e₂,a₂,w₂,hq₂, .of_steps (v_.1 _ hg) harr₂⟩
    ·have hg:gotoIn l (.inScope c::k)=gotoIn l k:=by simp[gotoIn,hf]
     exact⟨.goto l,a₁,w₁,hq,λk' hk=>v_.1 k' (by rw[hg];exact hk),λhr' hk=>v_.2 hr' (by rw[hg];exact hk)⟩
   |ret=>exact⟨_,a₁,w₁,hq,v_⟩
   |panic ch=>exact⟨_,a₁,w₁,hq,v_⟩
   |outgrown=>exact⟨_,a₁,w₁,hq,v_⟩
 obtain⟨e,a',w',hq,v_⟩:=key N c a w h;exact⟨e,a',w',hq, .of_steps (.one (fenced_calm hb hr rfl) Dn) v_⟩
def UE (T:CT) (sc:YR) (r:Option Nat) (n:Nat):Prop:=∀{ρ:Type} {b:Code} {E:Go} {pos:List Nat} {tl:Bool} {lv:Nat} {s:TS} {K:KT ρ} {y:ρ} {X:Fx} {B:Bs} {a:Act} {w:World} {Q:Exit->Act->World->Prop},bw X B->gC B s a w->sc b E pos tl lv s K=some y->rS T X B (cn b) a E K y Q->(Code.scope b).wpIn (Wf r) n T.P Q a w
theorem zD {T:CT} {r:Option Nat} {n:Nat}:UE T xd r n:=λ_ _ h _=>by cases h
section
variable {T:CT} (hr:∀d,oV T d) {calls:{ρ:Type}->List Nat->eZ ρ} (hc:∀pos,jk T.P (λ{ρ}=>calls (ρ:=ρ) pos)) {r:Option Nat} {n:Nat} {sc:YR}
include hr hc
theorem JK {ρ:Type} {id:Nat} {ops:Array Oper} {d:Bool} {E:Go} {pos:List Nat} {tl:Bool} {lv:Nat} {s:TS} {K:KT ρ} {y:ρ} {X:Fx} {B:Bs} {a:Act} {w:World} {Q:Exit->Act->World->Prop} (I:bw X B) (S:gC B s a w) (h:runT T calls sc (.region id ops d) E pos tl lv s K=some y) (hk:rS T X B (cn (.region id ops d)) a E K y Q):(Code.region id ops d).wpIn (Wf r) n T.P Q a w:=by
 unfold runT at h;dsimp only at h;cases hg:w7 ops.toList&& !(tu pos T.dup) with
 |false=>
  rw[hg,cond_false] at h;exact hr d (call:=λ{ρ}=>calls (ρ:=ρ) pos) (hc pos) I S h hk.k
 |true=>
  rw[hg,cond_true] at h;unfold yT at h;obtain⟨x,h1,h2⟩:=aeq.1 h;refine hr d (call:=λ{ρ}=>calls (ρ:=ρ) pos) (X:=X.tC B []) (B:=B.lock []) (s:=⟨s.fr,cL [] s.hp 0⟩) (y:=x) (hc pos) (I.lock []) (S.lock []) h1 λB' s' a' w' L' I' S' k' hp=> ?_
  split at hp;rotate_left
  ·cases hp
  rename_i x' hx;cases hp;have hb:jj B [] [] s.hp:=by rw[S.H];exact(h_.refl B.H).base λi hi=>by cases hi
  have EP:PZ ⟨[],tG T ops.toList s.fr lv (cn (.region 0 ops d)),[]⟩ B.H.length:=⟨nw S _,λx hx=>by cases hx⟩;obtain⟨J,_,_,L,IJ,SJ,_,_⟩:=oa (base:=⟨kz (cn (.region 0 ops d)) s.fr 0,s.hp⟩) I I' L' S' hx hb EP (λJ hJ t=>rK S hJ k' t) (by show(kz _ s.fr 0).length<=_;rw[lY,k'.1];exact S.n);exact hk.k J _ a' w' L IJ SJ k' h2
variable (hsc:UE T sc r n)
include hsc
theorem eY:∀(c:Code) {ρ:Type} {E:Go} {pos:List Nat} {tl:Bool} {lv:Nat} {s:TS} {K:KT ρ} {y:ρ} {X:Fx} {B:Bs} {a:Act} {w:World} {Q:Exit->Act->World->Prop},bw X B->gC B s a w->runT T calls sc c E pos tl lv s K=some y->rS T X B (cn c) a E K y Q->c.wpIn (Wf r) n T.P Q a w
 | .skip,ρ,E,pos,tl,lv,s,K,y,X,B,a,w,Q,I,S,h,hk=>wpIn_skip (hk.k B s a w (bo.refl B) I S (dO.refl _ _) h)
 | .label _,ρ,E,pos,tl,lv,s,K,y,X,B,a,w,Q,I,S,h,hk=>wpIn_label (hk.k B s a w (bo.refl B) I S (dO.refl _ _) h)
 | .region id ops d,ρ,E,pos,tl,lv,s,K,y,X,B,a,w,Q,I,S,h,hk=>JK hr hc I S h hk
 | .seq p q,ρ,E,pos,tl,lv,s,K,y,X,B,a,w,Q,I,S,h,hk=>by
   unfold runT at h;refine wpIn_seq (eY p I S h ⟨λB' s' a' w' L I' S' k hy=> ?_,λm B' s' a' w' L I' S' k hy=> ?_,λB' s' a' w' x vs L I hs hw k=>hk.rt B' s' a' w' x vs L I hs hw k.left⟩)
   ·refine eY q I' S' hy ⟨λB2 s2 a2 w2 L2 I2 S2 k2 h2=>hk.k B2 s2 a2 w2 (L.trans L2) I2 S2 (k.left.trans k2.right) h2,λm B2 s2 a2 w2 L2 I2 S2 k2 h2=>hk.ex m B2 s2 a2 w2 (L.trans L2) I2 S2 (k.left.trans k2.right) h2,λB2 s2 a2 w2 x vs L2 I2 hs hw k2=>hk.rt B2 s2 a2 w2 x vs (L.trans L2) I2 hs hw (k.left.trans k2.right)⟩
   ·rw[vY];exact hk.ex m B' s' a' w' L I' S' k.left hy
 | .exit i,ρ,E,pos,tl,lv,s,K,y,X,B,a,w,Q,I,S,h,hk=>wpIn_exit (by
    have:=hk.ex (2*i) B s a w (bo.refl B) I S (dO.refl _ _) h;rw[Cj] at this;exact this)
 | .goto l,ρ,E,pos,tl,lv,s,K,y,X,B,a,w,Q,I,S,h,hk=>wpIn_goto (by
    have:=hk.ex (2*l+1) B s a w (bo.refl B) I S (dO.refl _ _) h;rw[vW] at this;exact this)
 | .ret,ρ,E,pos,tl,lv,s,K,y,X,B,a,w,Q,I,S,h,hk=>wpIn_ret (by
    obtain⟨x,vs,h1,h2,h3⟩:=rb I S E.rl (show sV T s E.rl (λx=>K.rt x s)=some y from h);exact hk.rt B s a w x vs (bo.refl B) I S.H S.w (dO.refl _ _) S.df h1 h2 h3)
 | .scope b,ρ,E,pos,tl,lv,s,K,y,X,B,a,w,Q,I,S,h,hk=>hsc I S h hk
 | .rangeFunc ..,ρ,E,pos,tl,lv,s,K,y,X,B,a,w,Q,I,S,h,hk=>by cases h
 | .refuse _,ρ,E,pos,tl,lv,s,K,y,X,B,a,w,Q,I,S,h,hk=>by cases h
 | .cond c p q,ρ,E,pos,tl,lv,s,K,y,X,B,a,w,Q,I,S,h,hk=>by
   unfold runT at h;split at h;rotate_left
   ·rename_i m hx;have hv:=AO S.sl c;rw[hx] at hv;obtain⟨b,hv,hb⟩:=(d7 rfl rfl hv).2;have h:(bif dec (m=0->runT T calls sc p E (0::pos) tl lv s K=runT T calls sc q E (1::pos) tl lv s K) then runT T calls sc q E (1::pos) tl lv s K else none)=some y:=h;obtain⟨h1,h2⟩:=aQ h;cases b with
    |true=>
     have h1:=Xs h1;exact wpIn_cond_true hv (eY p I S ((h1 (hb rfl)).trans h2) hk.left)
    |false=>exact wpIn_cond_false hv (eY q I S h2 hk.right)
   ·cases h
   rename_i x hx;have hv:=AO S.sl c;rw[hx] at hv;have hv:=Sk hv;dsimp only at h;have both:∀{ρ:Type} {pos:List Nat} {tl:Bool} {lv:Nat} {K:KT ρ} {y:ρ} {X:Fx} {B:Bs} {s:TS},bw X B->gC B s a w->dn s c= .v .b x->af x (λ_=>runT T calls sc p E (0::pos) tl lv (Q2 c true s) K) (λ_=>runT T calls sc q E (1::pos) tl lv (Q2 c false s) K)=some y->rS T X B (cn p++cn q) a E K y Q->(Code.cond c p q).wpIn (Wf r) n T.P Q a w:=λ{ρ pos tl lv K y X B s} I S hx h hk=>by
    rcases uD h with⟨e,h⟩|⟨e,h⟩
    ·have e:x=true:=e;exact wpIn_cond_true (hv.trans (by rw[e])) (eY p I (Ku S (hx.trans (by rw[e]))) h hk.left)
    ·have e:x=false:=e;exact wpIn_cond_false (hv.trans (by rw[e])) (eY q I (Ku S (hx.trans (by rw[e]))) h hk.right)
   cases hb:(!(lG p&&lG q)||tl)||tu pos T.dup with
   |true=>
    rw[hb,cond_true] at h;exact both I S hx h hk
   |false=>
    rw[hb,cond_false] at h;generalize qk pos T.vn=WZ at h;obtain⟨W,Z⟩:=WZ;dsimp only at h;split at h;rotate_left
    ·cases h
    rename_i hp e hf he;rw[S.H] at hf;obtain⟨L1,I1,F1,_⟩:=fF I hf;have S1:gC (⟨B.F0,hp,B.bs,B.w⟩:Bs) ⟨s.fr,hp⟩ a w:=by have:=S.mono L1;exact⟨rfl,S.w,this.n,this.sl,this.df⟩
    have BE:=hk.wq L1;cases hq:(iw p||iw q)||e.isSome with
    |true=>
     rw[hq,cond_true] at h;unfold D1 at h;obtain⟨x',h1,h2⟩:=aeq.1 h;exact both (I1.lock _) (S1.lock _) hx h1 (wj (nm':= "") (nm2:=_) (e:=e) I1 S1 BE h2 (λ_ _ h=>h) (λ_ _ h=>h) λm s' hm=>by
      rcases mi hm with⟨h1,h2⟩|⟨_,h2⟩
      ·exact .inr ⟨h1,h2,λ_ _ h=>h⟩
      ·exact(kT h2).elim)
    |false=>
     rw[hq,cond_false] at h;unfold yT at h;obtain⟨x',h1,h2⟩:=aeq.1 h;refine both (I1.lock _) (S1.lock _) hx h1 (wi I1 S1 BE h2 (λs' x hp=> ?_) (λ_ _ h=>h) λm s' hm=>(kT hm).elim);split at hp
     ·cases hp;assumption
     ·cases hp
 | .block i b,ρ,E,pos,tl,lv,s,K,y,X,B,a,w,Q,I,S,h,hk=>by
   unfold runT at h;dsimp only at h;cases hb:(Nat.ble (lG.outs i b+(bif lG b then 1 else 0)) 1||tl)||tu pos T.dup with
   |true=>
    rw[hb,cond_true] at h;refine wpIn_block (eY b I S h ⟨λB' s' a' w' L I' S' k hy=>hk.k B' s' a' w' L I' S' k hy,λm B' s' a' w' L I' S' k hy=> ?_,hk.rt⟩);rcases mi hy with⟨e,h2⟩|⟨e,h2⟩
    ·rw[e];exact vX (hk.k B' s' a' w' L I' S' k h2)
    ·exact yG (hk.ex m B' s' a' w' L I' S' k h2) e
   |false=>
    rw[hb,cond_false] at h;generalize qk pos T.vn=WZ at h;obtain⟨W,Z⟩:=WZ;dsimp only at h;split at h;rotate_left
    ·cases h
    rename_i hp e hf he;have qd:∀m,e=some m->m≠2*i:=λm em h'=>by
     rw[em,h'] at he;have:∀l:List Nat,one (l.filter λn=> !(Nat.beq n (2*i)))=some (some (2*i))->False:=λl h=>by
      cases hl:l.filter λn=> !(Nat.beq n (2*i)) with
      |nil=>rw[hl] at h;cases h
      |cons x r=>
       rw[hl] at h;have h:(bif r.all (Nat.beq x) then some (some x) else none)=some (some (2*i)):=h;obtain⟨_,h⟩:=aQ h;cases h;have:2*i∈l.filter λn=> !(Nat.beq n (2*i)):=by rw[hl];exact adt
       have:=(List.mem_filter.1 this).2;rw[Nat.beq_refl] at this;cases this
     exact this _ he
    rw[S.H] at hf;obtain⟨L1,I1,F1,_⟩:=fF I hf;have S1:gC (⟨B.F0,hp,B.bs,B.w⟩:Bs) ⟨s.fr,hp⟩ a w:=by have:=S.mono L1;exact⟨rfl,S.w,this.n,this.sl,this.df⟩
    have BE:=hk.wq L1;cases hq:iw b||e.isSome with
    |true=>
     rw[hq,cond_true] at h;unfold D1 at h;obtain⟨x',h1,h2⟩:=aeq.1 h;refine wpIn_block (eY b (I1.lock _) (S1.lock _) h1 (wj (nm':= "") (nm2:= "") (e:=e) (Q':=Exit.inBlock i Q) I1 S1 BE h2 (λ_ _ h=>h) (λ_ _ h=>h) λm s' hm=> ?_));rcases mi hm with⟨g1,g2⟩|⟨g0,hm⟩
     ·rw[g1];exact .inl ⟨g2,λ_ _ h=>vX h⟩
     ·rcases mi hm with⟨g1,g2⟩|⟨_,g2⟩
      ·exact .inr ⟨g1,g2,λ_ _ h=>yG h g0⟩
      ·exact(kT g2).elim
    |false=>
     rw[hq,cond_false] at h;unfold yT at h;obtain⟨x',h1,h2⟩:=aeq.1 h;refine wpIn_block (eY b (I1.lock _) (S1.lock _) h1 (wi (Q':=Exit.inBlock i Q) I1 S1 BE h2 (λs' x hp=> ?_) (λ_ _ h=>h) λm s' hm=> ?_))
     ·split at hp
      ·cases hp;assumption
      ·cases hp
     ·rcases mi hm with⟨g1,g2⟩|⟨_,g2⟩
      ·rw[g1];exact⟨g2,λ_ _ h=>vX h⟩
      ·exact(kT g2).elim
 | .loop b,ρ,E,pos,tl,lv,s,K,y,X,B,a,w,Q,I,S,h,hk=>by
   unfold runT at h;dsimp only at h;cases hun:tu [999] T.dup with
   |true=>
    rw[hun,cond_true] at h;generalize hgo:(λ(_:Nat) (go:TS->R ρ) (s:TS)=>runT T calls sc b E (0::pos) true (live E.lr (.loop b) 0 (xK K.ex)) s ⟨go,K.ex,K.rt⟩)=g at h;refine nP (λN a' w'=>∃B' s',bo B B'/\bw X B'/\gC B' s' a' w'/\dO (cn b) a a'/\Nat.rec (motive:=λ_=>TS->R ρ) (λ_=>none) g N s'=some y) ?_ ?_ (N:=2) ⟨B,s,bo.refl B,I,S,dO.refl _ _,h⟩
    ·rintro a' w' ⟨_,_,_,_,_,_,hz⟩;cases hz
    ·rintro N a' w' ⟨B',s',L',I',S',k',hz⟩;have hz:g N (Nat.rec (motive:=λ_=>TS->R ρ) (λ_=>none) g N) s'=some y:=hz;have a7V:g N (Nat.rec (motive:=λ_=>TS->R ρ) (λ_=>none) g N) s'=runT T calls sc b E (0::pos) true (live E.lr (.loop b) 0 (xK K.ex)) s' ⟨Nat.rec (motive:=λ_=>TS->R ρ) (λ_=>none) g N,K.ex,K.rt⟩:=by rw[<-hgo]
     rw[a7V] at hz;refine eY b I' S' hz ⟨λB2 s2 a2 w2 L2 I2 S2 k2 hy=>⟨B2,s2,L'.trans L2,I2,S2,k'.trans k2,hy⟩,λm B2 s2 a2 w2 L2 I2 S2 k2 hy=> ?_,λB2 s2 a2 w2 x vs L2 I2 hs hw k2 hd hR hx hy=>hk.rt B2 s2 a2 w2 x vs (L'.trans L2) I2 hs hw (k'.trans k2) hd hR hx hy⟩;rw[vY];exact hk.ex m B2 s2 a2 w2 (L'.trans L2) I2 S2 (k'.trans k2) hy
   |false=>
   rw[hun,cond_false] at h;generalize qk pos T.vn=WZ at h;obtain⟨W,Z⟩:=WZ;dsimp only at h;split at h;rotate_left
   ·cases h
   rename_i hp e hf he;rw[S.H] at hf;obtain⟨L1,I1,F1,_⟩:=fF I hf;have S1:gC (⟨B.F0,hp,B.bs,B.w⟩:Bs) ⟨s.fr,hp⟩ a w:=by have:=S.mono L1;exact⟨rfl,S.w,this.n,this.sl,this.df⟩
   have BE:=hk.wq L1;split at h;rotate_left
   ·cases h
   rename_i x0 hx0;unfold CL at h;obtain⟨r1,h1,h2⟩:=aeq.1 h;have J0:=uS (W:=W) (lv:=live E.lr (.loop b) 0 (xK K.ex)) (d:=false) I1 S1 (bo.refl _) (I1.lock _) (S1.lock _) (dO.refl (cn b) a) hx0;obtain⟨Jl,q1,q2,q3⟩:=J0;generalize PN:(λx=>runT T calls sc b E (0::pos) true (live E.lr (.loop b) 0 (xK K.ex)) _ _)=f at h1;refine nP (λN a' w'=>∃x Bl,bo ((⟨B.F0,hp,B.bs,B.w⟩:Bs).lock (W++cA (shape T ⟨s.fr,hp⟩ (cn b) W (live E.lr (.loop b) 0 (xK K.ex)) false).bP (rowsOf (shape T ⟨s.fr,hp⟩ (cn b) W (live E.lr (.loop b) 0 (xK K.ex)) false) ⟨s.fr,hp⟩))) Bl/\
    bw (X.tC ⟨B.F0,hp,B.bs,B.w⟩ (W++cA (shape T ⟨s.fr,hp⟩ (cn b) W (live E.lr (.loop b) 0 (xK K.ex)) false).bP (rowsOf (shape T ⟨s.fr,hp⟩ (cn b) W (live E.lr (.loop b) 0 (xK K.ex)) false) ⟨s.fr,hp⟩))) Bl/\
    gC Bl (dt (shape T ⟨s.fr,hp⟩ (cn b) W (live E.lr (.loop b) 0 (xK K.ex)) false) x ⟨(c_ (cn b) W (shape T ⟨s.fr,hp⟩ (cn b) W (live E.lr (.loop b) 0 (xK K.ex)) false).bP (rowsOf (shape T ⟨s.fr,hp⟩ (cn b) W (live E.lr (.loop b) 0 (xK K.ex)) false) ⟨s.fr,hp⟩) s.fr hp).fr,cL ((shape T ⟨s.fr,hp⟩ (cn b) W (live E.lr (.loop b) 0 (xK K.ex)) false).bP.map (·.1)) (c_ (cn b) W (shape T ⟨s.fr,hp⟩ (cn b) W (live E.lr (.loop b) 0 (xK K.ex)) false).bP (rowsOf (shape T ⟨s.fr,hp⟩ (cn b) W (live E.lr (.loop b) 0 (xK K.ex)) false) ⟨s.fr,hp⟩) s.fr hp).hp 0⟩) a' w'/\dO (cn b) a a'/\iter f N x=some r1) ?_ ?_ (N:=9223372036854775808) ⟨x0,Jl,q1,q2,q3,dO.refl _ _,h1⟩
   ·rintro a' w' ⟨x,_,_,_,_,_,hz⟩;cases hz
   ·rintro N a' w' ⟨x,Bl,p1,p2,p3,p4,hz⟩;have hz:Option.bind (f x) (λr=>LR.rec (iter f N) (λs=>some (.ex s)) (λq=>some (.rt q)) r)=some r1:=hz;obtain⟨r2,g1,g2⟩:=aeq.1 hz;rw[<-PN] at g1;refine eY b p2 p3 g1 ⟨λB2 s2 a2 w2 L2 I2 S2 k2 hy=> ?_,λm B2 s2 a2 w2 L2 I2 S2 k2 hy=> ?_,λB2 s2 a2 w2 res vs L2 I2 hs hw k2 hd hR hr hy=> ?_⟩
    ·obtain⟨x2,e1,e2⟩:=AM hy;rw[e2] at g2;obtain⟨J2,u1,u2,u3⟩:=uS I1 S1 (p1.trans L2) I2 S2 (p4.trans k2) e1;exact⟨x2,J2,u1,u2,u3,p4.trans k2,g2⟩
    ·rcases mi hy with⟨e0,hy⟩|⟨_,hy⟩
     ·obtain⟨x2,e1,e2⟩:=A8 hy;rw[e2] at g2;have g2:some (LR.ex x2)=some r1:=g2;cases g2;obtain⟨m',u1,u2⟩:=HA I1 S1 BE (p1.trans L2) I2 h2 S2 (p4.trans k2) e1;subst u1;have e0:m=m':=e0;subst e0;rw[vY];exact u2
     ·exact(kT hy).elim
    ·obtain⟨x2,e1,e2⟩:=Bb hy;rw[e2] at g2;have g2:some (LR.rt x2)=some r1:=g2;cases g2;show Q .ret a2 w2;exact AS I1 S1 BE (p1.trans L2) I2 h2 hs hw (p4.trans k2) hd hR hr e1
end
end
noncomputable section
variable [pf]
theorem Bw {t:Nat} {l m:List (Nat×TypeId)} (h:cH t l=none) (h':cH t m=none):cH t (l++m)=none:=ji.2 ⟨h,h'⟩
theorem Ao {t:Nat}:∀{c:Code} {l:Nat} {rest:Code},findLabel c l=some rest->cH t (cn c)=none->cH t (cn rest)=none
 | .seq p q,l,rest,h,ht=>by
   obtain⟨h1,h2⟩:=ji.1 (show cH t (cn p++cn q)=none from ht);unfold findLabel at h;split at h
   ·rename_i r hr;cases h;exact Bw (Ao hr h1) h2
   ·exact Ao h h2
 | .label l',l,rest,h,_=>by
   unfold findLabel at h;split at h
   ·cases h;rfl
   ·cases h
 | .skip,_,_,h,_| .region ..,_,_,h,_| .cond ..,_,_,h,_| .block ..,_,_,h,_| .loop _,_,_,h,_| .rangeFunc ..,_,_,h,_| .exit _,_,_,h,_| .scope _,_,_,h,_| .goto _,_,_,h,_| .ret,_,_,h,_| .refuse _,_,_,h,_=>by cases h
theorem vM:∀{c:Code} {l:Nat} {rest:Code},findLabel c l=some rest->l∈mr c
 | .seq p q,l,rest,h=>by
   unfold findLabel at h;show l∈mr p++mr q;split at h
   ·rename_i r hr;exact adM _ (vM hr)
   ·exact adH _ (vM h)
 | .label l',l,rest,h=>by
   unfold findLabel at h;split at h
   ·rename_i e;rw[<-eq_of_beq e];exact adt
   ·cases h
 | .skip,_,_,h| .region ..,_,_,h| .cond ..,_,_,h| .block ..,_,_,h| .loop _,_,_,h| .rangeFunc ..,_,_,h| .exit _,_,_,h| .scope _,_,_,h| .goto _,_,_,h| .ret,_,_,h| .refuse _,_,_,h=>by cases h
theorem dO.sub {wr wr':List (Nat×TypeId)} {a a':Act} (h:dO wr' a a') (hs:∀t,cH t wr=none->cH t wr'=none):dO wr a a':=⟨h.1,λt ht=>h.2 t (hs t ht)⟩
theorem rS.sub {ρ:Type} {T:CT} {X:Fx} {B:Bs} {wr wr':List (Nat×TypeId)} {a:Act} {E:Go} {K:KT ρ} {y:ρ} {Q:Exit->Act->World->Prop} (h:rS T X B wr a E K y Q) (hs:∀t,cH t wr=none->cH t wr'=none):rS T X B wr' a E K y Q:=
 ⟨λB' s' a' w' L I S k=>h.k B' s' a' w' L I S (k.sub hs),λm B' s' a' w' L I S k=>h.ex m B' s' a' w' L I S (k.sub hs),λB' s' a' w' x vs L I e1 e2 k=>h.rt B' s' a' w' x vs L I e1 e2 (k.sub hs)⟩
theorem rS.tJ {ρ:Type} {T:CT} {X:Fx} {B B':Bs} {wr:List (Nat×TypeId)} {a a':Act} {E:Go} {K:KT ρ} {y:ρ} {Q:Exit->Act->World->Prop} (h:rS T X B wr a E K y Q) (L:bo B B') (k:dO wr a a'):rS T X B' wr a' E K y Q:=
 ⟨λB2 s2 a2 w2 L2 I S k2=>h.k B2 s2 a2 w2 (L.trans L2) I S (k.trans k2),λm B2 s2 a2 w2 L2 I S k2=>h.ex m B2 s2 a2 w2 (L.trans L2) I S (k.trans k2),λB2 s2 a2 w2 x vs L2 I e1 e2 k2=>h.rt B2 s2 a2 w2 x vs (L.trans L2) I e1 e2 (k.trans k2)⟩
theorem J5 {b:Code} {l m:Nat} {J:Code->Act->World->Prop} {Q:Exit->Act->World->Prop} {a:Act} {w:World} (hl:mr b=[l]) (hm:m≠2*l+1) (h:xY Q m a w):xY (zE b J Q) m a w:=by
 unfold xY at h⊢;split
 ·rename_i e;rw[adp e] at h;exact h
 ·rename_i e;rw[adq e] at h;refine .inr ⟨?_,h⟩;cases hf:findLabel b (m/2) with
  |none=>rfl
  |some rest=>
   have:=vM hf;rw[hl] at this;have:=adF.1 this;omega
section
variable {ρ:Type} (T:CT) (calls:{ρ:Type}->List Nat->eZ ρ) (b rest:Code) (l:Nat) (E:Go) (pos:List Nat) (lv lvl:Nat) (K:KT ρ) (y:ρ) (X:Fx) (Q:Exit->Act->World->Prop)
def YL (N:Nat) (a':Act) (w':World):Prop:=∃(W:List Nat) (fr:List TV) (B1:Bs) (a1:Act) (w1:World) (r1:Kl E (shape T ⟨fr,B1.H⟩ (cn b) W lvl true) (shape T ⟨fr,B1.H⟩ (cn b) W lv true)) (x:fE.T (shape T ⟨fr,B1.H⟩ (cn b) W lvl true).iY) (Bl:Bs),
 bw X B1/\gC B1 ⟨fr,B1.H⟩ a1 w1/\rS T X B1 (cn b) a1 E K y Q/\
 (LR.rec (motive:=λ_=>R ρ) (λ_=>none) (λx=>K.k (dt (shape T ⟨fr,B1.H⟩ (cn b) W lv true) x ⟨(c_ (cn b) W (shape T ⟨fr,B1.H⟩ (cn b) W lvl true).bP (rowsOf (shape T ⟨fr,B1.H⟩ (cn b) W lvl true) ⟨fr,B1.H⟩) fr B1.H).fr,nk (rowsOf (shape T ⟨fr,B1.H⟩ (cn b) W lv true) ⟨fr,B1.H⟩) (c_ (cn b) W (shape T ⟨fr,B1.H⟩ (cn b) W lvl true).bP (rowsOf (shape T ⟨fr,B1.H⟩ (cn b) W lvl true) ⟨fr,B1.H⟩) fr B1.H).hp⟩)) (Fh (iw rest) E K (shape T ⟨fr,B1.H⟩ (cn b) W lvl true) (c_ (cn b) W (shape T ⟨fr,B1.H⟩ (cn b) W lvl true).bP (rowsOf (shape T ⟨fr,B1.H⟩ (cn b) W lvl true) ⟨fr,B1.H⟩) fr B1.H)) r1)=some y/\
 bo (B1.lock (W++cA (shape T ⟨fr,B1.H⟩ (cn b) W lvl true).bP (rowsOf (shape T ⟨fr,B1.H⟩ (cn b) W lvl true) ⟨fr,B1.H⟩))) Bl/\bw (X.tC B1 (W++cA (shape T ⟨fr,B1.H⟩ (cn b) W lvl true).bP (rowsOf (shape T ⟨fr,B1.H⟩ (cn b) W lvl true) ⟨fr,B1.H⟩))) Bl/\
 gC Bl (dt (shape T ⟨fr,B1.H⟩ (cn b) W lvl true) x ⟨(c_ (cn b) W (shape T ⟨fr,B1.H⟩ (cn b) W lvl true).bP (rowsOf (shape T ⟨fr,B1.H⟩ (cn b) W lvl true) ⟨fr,B1.H⟩) fr B1.H).fr,cL ((shape T ⟨fr,B1.H⟩ (cn b) W lvl true).bP.map (·.1)) (c_ (cn b) W (shape T ⟨fr,B1.H⟩ (cn b) W lvl true).bP (rowsOf (shape T ⟨fr,B1.H⟩ (cn b) W lvl true) ⟨fr,B1.H⟩) fr B1.H).hp 0⟩) a' w'/\dO (cn b) a1 a'/\
 iter (λx=>runT T calls xd rest E (2::pos) true lvl (dt (shape T ⟨fr,B1.H⟩ (cn b) W lvl true) x ⟨(c_ (cn b) W (shape T ⟨fr,B1.H⟩ (cn b) W lvl true).bP (rowsOf (shape T ⟨fr,B1.H⟩ (cn b) W lvl true) ⟨fr,B1.H⟩) fr B1.H).fr,cL ((shape T ⟨fr,B1.H⟩ (cn b) W lvl true).bP.map (·.1)) (c_ (cn b) W (shape T ⟨fr,B1.H⟩ (cn b) W lvl true).bP (rowsOf (shape T ⟨fr,B1.H⟩ (cn b) W lvl true) ⟨fr,B1.H⟩) fr B1.H).hp 0⟩)
  ⟨SS "" E (shape T ⟨fr,B1.H⟩ (cn b) W lvl true) (shape T ⟨fr,B1.H⟩ (cn b) W lv true),[(2*l+1,lvl,Ot "" E (shape T ⟨fr,B1.H⟩ (cn b) W lvl true) (shape T ⟨fr,B1.H⟩ (cn b) W lv true))],Ur "" E (shape T ⟨fr,B1.H⟩ (cn b) W lvl true) (shape T ⟨fr,B1.H⟩ (cn b) W lv true)⟩) N x=some r1
end
theorem xe {T:CT} (hr:∀d,oV T d) {calls:{ρ:Type}->List Nat->eZ ρ} (hc:∀pos,jk T.P (λ{ρ}=>calls (ρ:=ρ) pos)) {r:Option Nat} {n:Nat}:UE T (pV T calls) r n:=by
 intro ρ b E pos tl lv s K y X B a w Q I S h hk;unfold pV at h;dsimp only at h;split at h;rotate_left
 ·cases h
 rename_i l hl;split at h;rotate_left
 ·cases h
 rename_i rest hf;generalize live E.lr rest lv ((2*l+1,live E.lr rest lv ((2*l+1,0)::xK K.ex))::xK K.ex)=lvl at h;refine FI (λN d a' w'=>(d=b/\N=9223372036854775809/\a'=a/\w'=w)\/(d=rest/\YL T calls b rest l E pos lv lvl K y X Q N a' w')) ?_ ?_ (N:=9223372036854775809) (.inl ⟨rfl,rfl,rfl,rfl⟩)
 ·rintro d a' w' (⟨_,h,_⟩|⟨_,_,_,_,_,_,_,_,_,_,_,_,_,_,_,_,_,hz⟩)
  ·cases h
  ·cases hz
 ·rintro N d a' w' (⟨e1,e2,e3,e4⟩|⟨e1,W,fr,B1,a1,w1,r1,x,Bl,I1,S1,BE,hy,p1,p2,p3,p4,hz⟩)
  ·have e2:N=9223372036854775808:=by omega
   subst e1;subst e2;subst e3;subst e4;refine eY hr hc zD d I S h ⟨λB' s' a' w' L' I' S' k' hy=>hk.k B' s' a' w' L' I' S' k' hy,λm B' s' a' w' L' I' S' k' hy=> ?_,λB' s' a' w' x vs L' I' hs hw k hd hR xJ hy=>hk.rt B' s' a' w' x vs L' I' hs hw k hd hR xJ hy⟩;rcases mi hy with⟨e0,hy⟩|⟨hm,hy⟩;rotate_left
   ·exact J5 hl hm (hk.ex m B' s' a' w' L' I' S' k' hy)
   rw[e0,vW];refine .inl ⟨rest,hf, .inr ⟨rfl,?_⟩⟩;generalize qk (1::pos) T.vn=WZ at hy;obtain⟨W,Z⟩:=WZ;dsimp only at hy;split at hy;rotate_left
   ·cases hy
   rename_i hp WW;rw[S'.H] at WW;obtain⟨L1,I1,F1,_⟩:=fF I' WW;have S1:gC (⟨B'.F0,hp,B'.bs,B'.w⟩:Bs) ⟨s'.fr,hp⟩ a' w':=by have:=S'.mono L1;exact⟨rfl,S'.w,this.n,this.sl,this.df⟩
   split at hy;rotate_left
   ·cases hy
   rename_i x0 hx0;unfold CL at hy;obtain⟨r1,h1,h2⟩:=aeq.1 hy;obtain⟨Jl,q1,q2,q3⟩:=uS (W:=W) (lv:=lvl) (d:=true) I1 S1 (bo.refl _) (I1.lock _) (S1.lock _) (dO.refl (cn d) a') hx0;exact⟨W,s'.fr,⟨B'.F0,hp,B'.bs,B'.w⟩,a',w',r1,x0,Jl,I1,S1,hk.tJ (L'.trans L1) k',h2,q1,q2,q3,dO.refl _ _,h1⟩
  ·subst e1;generalize PN:(λx=>runT T calls xd d E (2::pos) true lvl _ _)=f at hz;have hz:Option.bind (f x) (λr=>LR.rec (iter f N) (λs=>some (.ex s)) (λq=>some (.rt q)) r)=some r1:=hz;obtain⟨r2,g1,g2⟩:=aeq.1 hz;rw[<-PN] at g1;have sub:∀t,cH t (cn b)=none->cH t (cn d)=none:=λt ht=>Ao hf ht
   refine eY hr hc zD d p2 p3 g1 ⟨λB2 s2 a2 w2 L2 I2 S2 k2 RK=> ?_,λm B2 s2 a2 w2 L2 I2 S2 k2 RK=> ?_,λB2 s2 a2 w2 res vs L2 I2 hs hw k2 hd hR xJ RK=> ?_⟩
   ·obtain⟨x2,e1,e2⟩:=A8 RK;rw[e2] at g2;have g2:some (LR.ex x2)=some r1:=g2;cases g2;have hk2:rS T X B1 (cn b) a1 E ⟨K.k,[(0,0,K.k)],K.rt⟩ y (λe a w=>match e with| .exit _=>Q .normal a w|e=>Q e a w):=
     ⟨λB' s' a' w' L I S k h=>BE.k B' s' a' w' L I S k h,λm B' s' a' w' L I S k h=>by
       rcases mi h with⟨e0,h⟩|⟨_,h⟩
       ·rw[e0];exact BE.k B' s' a' w' L I S k h
       ·exact(kT h).elim,λB' s' a' w' x vs L I e1 e2 k e3 e4 e5 h=>BE.rt B' s' a' w' x vs L I e1 e2 k e3 e4 e5 h⟩
    have:=OE (m:=0) (d:=true) I1 S1 hk2 (p1.trans L2) I2 S2 (p4.trans (k2.sub sub)) e1 hy;exact this
   ·rcases mi RK with⟨e0,RK⟩|⟨_,RK⟩
    ·obtain⟨x2,e1,e2⟩:=AM RK;rw[e2] at g2;rw[e0,vW];obtain⟨J2,u1,u2,u3⟩:=uS I1 S1 (p1.trans L2) I2 S2 (p4.trans (k2.sub sub)) e1;exact .inl ⟨d,hf, .inr ⟨rfl,W,fr,B1,a1,w1,r1,x2,J2,I1,S1,BE,hy,u1,u2,u3,p4.trans (k2.sub sub),by rw[PN];exact g2⟩⟩
    ·exact(kT RK).elim
   ·obtain⟨x2,e1,e2⟩:=Bb RK;rw[e2] at g2;have g2:some (LR.rt x2)=some r1:=g2;cases g2;show Q .ret a2 w2;exact AS I1 S1 BE (p1.trans L2) I2 hy hs hw (p4.trans (k2.sub sub)) hd hR xJ e1
end
end Go.Proofs.YtbjcjppphoppfaaGreat.T
