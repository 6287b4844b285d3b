import Derived.Test.YtbjcjppphoppfaaGreatEAK
import Derived.Test.YtbjcjppphoppfaaGreatEAL
import Derived.Test.YtbjcjppphoppfaaGreatProg
set_option linter.all false
namespace Go.Proofs.YtbjcjppphoppfaaGreat.T
open Go
noncomputable section
variable [pf]
theorem Sw {op:Op} {u:Operand} (h:spot op=some u):u∈op.operands.toList:=by
 cases op<;>first|cases h|skip
 all_goals first|exact adt|skip
 ·show _∈(#[_]++_++_++_:Array Operand).toList;simp
 ·rename_i c;have h:c.args[0]? =some u:=h;show u∈c.operands.toList;unfold Call.operands;have:=Array.mem_of_getElem? h;simp[this]
section
variable {T:CT} {ops:Array Oper} {X:Fx} {pend:List It} {rest:List Dr} {md:List (Nat×Nat)} {s:TS} {B:Bs} {a:Act} {w:World} {y:It} (D:iL T ops X pend rest md s B a w) (hy:y∈pend) (hr:∀z∈pend,bit y.x.m z.x.i=false)
include D hy
theorem oq (hj:y.j=none) (j:Nat):j∈gm (p8 pend y)↔j∈gm pend:=by
 rw[d_,d_];constructor
 ·rintro⟨z,h1,h2⟩;exact⟨z,(dW.1 h1).1,h2⟩
 ·rintro⟨z,h1,h2⟩;refine⟨z,dW.2 ⟨h1,λe=> ?_⟩,h2⟩;rw[D.same z h1 y hy e,hj] at h2;cases h2
theorem wM {k:Nat} (hj:y.j=some k) (j:Nat):j∈gm (p8 pend y)↔j∈gm pend/\j≠k:=by
 rw[d_,d_];constructor
 ·rintro⟨z,h1,h2⟩;refine⟨⟨z,(dW.1 h1).1,h2⟩,λe=> ?_⟩;subst e;exact(dW.1 h1).2 (D.inj z (dW.1 h1).1 y hy j h2 hj)
 ·rintro⟨⟨z,h1,h2⟩,h3⟩;refine⟨z,dW.2 ⟨h1,λe=> ?_⟩,h2⟩;rw[D.same z h1 y hy e,hj] at h2;cases h2;exact h3 rfl
include hr
theorem iL.run {n:Nat} {r:Option Nat} {Q:Exit->Act->World->Prop} {K:Act->World->Prop} (hK:∀B' v,bo B B'->iL T ops X (p8 pend y) rest md s B' (a.put y.x.o.dst v) B'.w->K (a.put y.x.o.dst v) B'.w):wpOpIn (Wf r) n T.P ops Q y.x.i K a w:=by
 obtain⟨o1,o2,o3,o4⟩:=D.ok y.x (.inr ⟨y,hy,rfl⟩);obtain⟨hc,s',St⟩:=D.st y hy;have It0:=D.it y hy;have rd:=D.reads hy hr;have hO:ja B y.s y.x.o.op a.eval:=zy rd;have Yp:∀c,y.x.o.op≠ .defer c:=λc e=>by
  rw[o2,e] at hc;exact absurd hc (show¬6<=2 by decide)
 have hw:B.w=w:=D.w;unfold wpOpIn;rw[o1];dsimp only;rcases id St with⟨PS,htv,hj,_⟩|⟨PS,h1,hv,hl,hj,_⟩|⟨PS,lh,⟨m1,m2,m3,m4,m5⟩,hj,H',hf,_⟩
 ·rw[rL rd PS,adq (by decide)];refine⟨λ_ _=>trivial,?_⟩;rw[<-hw];refine hK B undef (bo.refl B) (D.done hy hr (bo.refl B) D.I rfl ⟨D.lJ.len,λj hj'=>D.lJ.q j ((oq D hy hj j).1 hj'),λj hj'=>D.lJ.e j λh=>hj' ((oq D hy hj j).2 h)⟩ (λ_ _=>⟨rfl,rfl⟩) ?_);rw[htv];rfl
 ·rw[rL rd PS,adp rfl];obtain⟨v,r1,r2⟩:=hv X B a.eval D.I hO It0.hZ λjq u hu j PR=>by
   obtain⟨k1,k2⟩:=It0.spot PS (by rw[o2];exact jq) u hu j PR;exact k2.resolve_left (P9 (hO u (Sw hu)) PR)
  rw[<-hw];exact xB Yp r1 (.inl rfl) (hK B v (bo.refl B) (D.done hy hr (bo.refl B) D.I rfl ⟨D.lJ.len,λj hj'=>D.lJ.q j ((oq D hy hj j).1 hj'),λj hj'=>D.lJ.e j λh=>hj' ((oq D hy hj j).2 h)⟩ (λ_ _=>⟨rfl,rfl⟩) r2))
 ·rw[rL rd PS,adp rfl];have hjn:y.j≠none:=by rw[hj];exactλh=>by cases h
  obtain⟨run,r1,v,p,w',q1,q2,q3,q4,q5,q6,q7⟩:=m5 X B a.eval D.I hO λj nq=>by
   obtain⟨_,k2⟩:=It0.fz hjn j nq;obtain⟨u,hu1,hu2⟩:=m3 j nq;exact k2.resolve_left ((hO u hu1).refs j hu2)
  generalize hk:y.s.hp.length+y.es.length=k at*;have hkp:k∈gm pend:=d_.2 ⟨y,hy,hj⟩;obtain⟨st,g1,g2⟩:=D.made y hy k hj;have Nl:k<B.H.length:=by
   rw[D.lJ.len];apply aeg;intro h';rw[dw _ _ _ h'] at g1;have h3:7=st:=congrArg TE.st g1;omega
  have hek:B.e k= .bu:=D.lJ.q k hkp;have eK:nth .bu (setAt ⟨st,y.tb⟩ B.H k) k=⟨st,y.tb⟩:=by rw[cx,adp ⟨rfl,Nl⟩]
  have bK:nth none (setAt p B.bs k) k=p:=by rw[cx,adp ⟨rfl,by rw[D.I.len];exact Nl⟩]
  have oth:∀j,j≠k->nth .bu (setAt ⟨st,y.tb⟩ B.H k) j=B.e j/\nth none (setAt p B.bs k) j=B.b j:=λj hj=>⟨by rw[cx,adq (λh=>hj h.1)];rfl,by rw[cx,adq (λh=>hj h.1)];rfl⟩
  obtain⟨L,I'⟩:=D.I.step k (B':=⟨B.F0,setAt ⟨st,y.tb⟩ B.H k,setAt p B.bs k,w'⟩) rfl (by show(setAt _ _ _).length=(setAt _ _ _).length;rw[d5,d5,D.I.len]) (by show _<=(setAt _ _ _).length;rw[d5];exact adw _)
   (λj hj=>⟨.inl (oth j hj).1,(oth j hj).2⟩) (λx hx=>D.lk k hkp x hx) (λb hb _=>q2 b hb) q3 q4 (λb s' hb=> .inl (q5 b s' (bK.symm.trans hb))) (λh7=>absurd (by rw[hek];rfl) h7) (λL h2=>by
     show lg _ (nth .bu (setAt ⟨st,y.tb⟩ B.H k) k) (nth none (setAt p B.bs k) k);rw[eK,bK];exact q6 _ st rfl (λi e hi=>((It0.own hjn) i e hi).mono L) L)
  have hv:Rv (⟨B.F0,setAt ⟨st,y.tb⟩ B.H k,setAt p B.bs k,w'⟩:Bs) y.tv v:=by
   rw[m1];refine q7 _ k ?_ ?_ bK
   ·show(nth .bu (setAt ⟨st,y.tb⟩ B.H k) k).st≠7;rw[eK];show st≠7;omega
   ·show y.tb.hZ (nth .bu (setAt ⟨st,y.tb⟩ B.H k) k).b;rw[eK];exact cu _
  have r2:(execOp a.eval y.x.o).run T.P B.w= .ok (.value v) w':=by rw[r1];exact jN q1
  rw[<-hw];refine xB Yp r2 (.inl rfl) (hK ⟨B.F0,setAt ⟨st,y.tb⟩ B.H k,setAt p B.bs k,w'⟩ v L (D.done hy hr L I' rfl ⟨?_,λj hj'=> ?_,λj hj'=> ?_⟩ (λj hj'=>oth j λe=>hj' (by rw[e];exact hj)) hv))
  ·show(setAt _ _ _).length=_;rw[d5];exact D.lJ.len
  ·obtain⟨h1,h2⟩:=(wM D hy hj j).1 hj';exact(oth j h2).1.trans (D.lJ.q j h1)
  ·by_cases e:j=k
   ·rw[e];exact eK.trans g1.symm
   ·exact(oth j e).1.trans (D.lJ.e j λh=>hj' ((wM D hy hj j).2 ⟨h,e⟩))
end
end
noncomputable section
variable [pf]
theorem pL {c:Nat} {x y:Dr}:∀{l:List Dr},y∈l->y.c=c->bit x.m y.i=false->y.i∈gN c x l
 |[],h,_,_=>by cases h
 |z::r,h,hc,hb=>by
  show _∈(bif Nat.beq z.c c&& !(bit x.m z.i) then z.i::gN c x r else gN c x r);rcases adK.1 h with e|h
  ·rw[<-e,hc,hb,Nat.beq_refl];exact adt
  ·have:=pL (x:=x) h hc hb;cases Nat.beq z.c c&& !(bit x.m z.i) with
   |true=>exact ady _ this
   |false=>exact this
theorem pE {md:List (Nat×Nat)} {i j:Nat} (h:qJ i md=some j):∀{l:List Nat},i∈l->j∈gL md l
 |[],hi=>by cases hi
 |k::r,hi=>by
  show j∈(match qJ k md with|some j=>j::gL md r|none=>gL md r);rcases adK.1 hi with e|hi
  ·rw[<-e,h];exact adt
  ·have:=pE h hi;split
   ·exact ady _ this
   ·exact this
section
variable {T:CT} {ops:Array Oper} {X:Fx} {pend:List It} {rest:List Dr} {md:List (Nat×Nat)} {s:TS} {B:Bs} {a:Act} {w:World} {x:Dr} (D:iL T ops X pend (x::rest) md s B a w) (hr:∀z∈pend,bit x.m z.x.i=false)
include D hr
theorem iL.XF:∀t∈f_ ops x.o,Rv B (nth .bU s.fr t) (a.tmps.getD t undef):=λt ht=>by
 rw[<-(D.ok x (.inl adt)).2.2.2] at ht;rcases D.sl t with h|⟨z,hz,h1,_⟩
 ·exact h
 ·have p:=D.ah z hz x adt;rcases(p.s1 t h1).2 ht with h|h
  ·rw[hr z hz] at h;cases h
  ·rw[p.no] at h;cases h
theorem iL.head {B':Bs} {v:Value} {tv:TV} {s1 s2:TS} {w':World} (L:bo B B') (I':bw X B') (hw:B'.w=w') (EO:Uz B' s1.hp (gm pend)) (BD:s1.fr=s.fr) (ui:oQ x.o.dst tv s1=some s2) (hv:Rv B' tv v) (hc:2<x.c)
 (hlen:B.H.length<=B'.H.length) (hbn:∀j∈gm pend,B'.b j=none) (h7:∀j,j<B.H.length->(B.e j).st=7->(B'.e j).st=7) (h0:∀j,(B.e j).st=0->B'.e j=B.e j)
 (PR:∀y∈pend,ig ops y.x.o y.s true->y.x.c=1->∀u,spot y.x.o.op=some u->∀j,BI (dn y.s u)=some j->(B.e j).st<=2->B'.e j=B.e j)
 (No:∀j∈gm pend,nth .bu s1.hp j=nth .bu s.hp j) (WW:∀j,(nth .bu s.hp j).st=0->(nth .bu s1.hp j).st=0):iL T ops X pend rest (fJ x s s2++md) s2 B' (a.put x.o.dst v) w':=by
 have sn:fJ x s s2=[]:=by
  unfold fJ;split
  ·rename_i h;omega
  ·rename_i h;omega
  ·rfl
 rw[sn,List.nil_append];obtain⟨p1,p2,p3,p4⟩:=r7 ui;rw[BD] at p2;have mK:(a.put x.o.dst v).tmps.size=a.tmps.size:=by
  cases x.o.dst with
  |none=>rfl
  |some d=>exact Array.size_setIfInBounds
 have hdf:(a.put x.o.dst v).defers=a.defers:=by cases x.o.dst<;>rfl
 have pg1:∀{q},x.o.dst≠some q->(a.put x.o.dst v).tmps.getD q undef=a.tmps.getD q undef:=λ{q} h=>by
  cases hd:x.o.dst with
  |none=>rfl
  |some d=>
   show(a.tmps.setIfInBounds d v).getD q undef=_;rw[jR,adq (λk=>h (by rw[hd,k.1]))]
 have pg2:∀{q},x.o.dst=some q->Rv B' (nth .bU s2.fr q) ((a.put x.o.dst v).tmps.getD q undef):=λ{q} h=>by
  rw[p4 q h,h];show Rv B' tv ((a.tmps.setIfInBounds q v).getD q undef)
  by_cases hq:q<a.tmps.size
  ·rw[jR,adp ⟨rfl,hq⟩];exact hv
  ·have hn:=D.n;have:tv= .bU:=by
    rw[<-p4 q h];exact dw _ _ _ (by rw[p2];exact aem hn (Nat.le_of_not_lt hq))
   rw[this];trivial
 have ah:∀{z},z∈pend->BN z.x x:=λhz=>D.ah _ hz x adt
 refine⟨D.bk,I',hw,hdf.trans D.df,by rw[mK,p2];exact D.n,by rw[p1];exact EO,hbn,λq=> ?_,λz hz q hq=> ?_,λy hy=> ?_,D.st,λy hy j hj=> ?_,D.YI,λz hz hj j nq=> ?_,D.inj,D.lk,D.md,λy hy z hz=>D.ah y hy z (ady _ hz),D.pp,D.same,λy z h=>D.rp y z (.next _ h),λz hz=>D.ok z (hz.imp (ady _) id)⟩
 ·by_cases hq:x.o.dst=some q
  ·exact .inl (pg2 hq)
  ·rw[pg1 hq,p3 q hq,BD];exact(D.sl q).imp (λh=>h.mono L) id
 ·rw[p3 q ((ah hz).s1 q hq).1,BD];exact D.sd z hz q hq
 ·have I0:=D.it y hy;refine⟨λt ht=> ?_,I0.sd,λj h1 h2=> ?_,aem I0.hl hlen,λh1 h2 u hu j hj=> ?_,λh1 j hj=> ?_,λh1 i e hi=>(I0.own h1 i e hi).mono L⟩
  ·have qd:x.o.dst≠some t:=λh=>by
    rcases((ah hy).s2 t h).2 ht with h|h
    ·rw[(ah hy).no] at h;cases h
    ·rw[hr y hy] at h;cases h
   rw[pg1 qd];exact(I0.sl t ht).imp (λh=>h.mono L) id
  ·have nq:j<B.H.length:=aef (by
    apply aeg;intro h';rw[dw _ _ _ h'] at h1;exact h1 rfl) I0.hl
   have hB:(B.e j).st≠7:=λh=>h2 (h7 j nq h)
   exact pI (I0.hZ j h1 hB) (L.e j hB).2.2
  ·obtain⟨k1,k2⟩:=I0.spot h1 h2 u hu j hj;have nq:j<B.H.length:=aef (by
    apply aeg;intro h';rw[dw _ _ _ h'] at k1;exact absurd k1 (show¬7<=2 by decide)) I0.hl
   refine⟨k1,k2.imp (h7 j nq) λk=> ?_⟩;rw[PR y hy h1 h2 u hu j hj k.1];exact k
  ·obtain⟨k1,k2⟩:=I0.fz h1 j hj;have nq:j<B.H.length:=aef (by
    apply aeg;intro h';rw[dw _ _ _ h'] at k1;exact absurd k1 (show¬7<=2 by decide)) I0.hl
   refine⟨k1,k2.imp (h7 j nq) λk=> ?_⟩;rw[h0 j k.1];exact k
 ·obtain⟨st,g1,g2⟩:=D.made y hy j hj;exact⟨st,by rw[p1,No j (d_.2 ⟨y,hy,hj⟩)];exact g1,g2⟩
 ·rw[p1];exact WW j (D.fzs z hz hj j nq)
theorem iL.a9n (hd:20<=T.P.depth) {call:{ρ:Type}->eZ ρ} (nn:jk T.P call) {done:List Dr} (PL:∀y∈pend,y.x∈done) (hc:2<x.c) {ρ:Type} {F:TS->R ρ} {yv:ρ}
 (h:rH ops x.o s (λs F=>bif Nat.ble x.c 2 then(bif ok0 T s x.o.op then tf T call s x.o.op F else none) else
    (match yH (gL md (gN 2 x done)) s.hp with
     |some h=>bif CH s h x.o.op.operands.toList&&yV h h then tf T call ⟨s.fr,gW (gL md (gN 1 x done)) h⟩ x.o.op λv s'=>F v ⟨s'.fr,restore (gL md (gN 2 x done)++gL md (gN 1 x done)) s.hp s'.hp⟩ else none
     |none=>none)) (oQ x.o.dst) F=some yv)
 {n:Nat} {r:Option Nat} {Q:Exit->Act->World->Prop} {K:Act->World->Prop} (hK:∀B' v s2,bo B B'->iL T ops X pend rest (fJ x s s2++md) s2 B' (a.put x.o.dst v) B'.w->F s2=some yv->K (a.put x.o.dst v) B'.w):wpOpIn (Wf r) n T.P ops Q x.i K a w:=by
 obtain⟨o1,o2,o3,o4⟩:=D.ok x (.inl adt);have rd:=D.XF hr;have hO:ja B s x.o.op a.eval:=zy rd;have hw:B.w=w:=D.w;unfold wpOpIn;rw[o1];dsimp only;rcases zL h with⟨PS,h⟩|⟨PS,s2,hp,hF⟩;rotate_left
 ·rw[rL rd PS,adq (by decide)];refine⟨λ_ _=>trivial,?_⟩;rw[<-hw];exact hK B undef s2 (bo.refl B) (D.head hr (bo.refl B) D.I rfl D.lJ rfl hp (tv:= .nI) rfl hc (adw _) D.bn (λ_ _ h=>h) (λ_ _=>rfl) (λ_ _ _ _ _ _ _ _ _=>rfl) (λ_ _=>rfl) λ_ h=>h) hF
 ·rw[rL rd PS,adp rfl];have a7K:Nat.ble x.c 2=false:=by
   cases hb:Nat.ble x.c 2 with
   |false=>rfl
   |true=>have:=adv hb;omega
  rw[a7K,cond_false] at h;generalize hhs:gL md (gN 2 x done)=hs at h;generalize hps:gL md (gN 1 x done)=ps at h;split at h;rotate_left
  ·cases h
  rename_i h1 hh;obtain⟨hl,h⟩:=aQ h;rw[adr] at hl;obtain⟨hlO,hlH⟩:=hl;have hq:∀j∈gm pend,j∈hs:=λj hj=>by
   obtain⟨y,hy,tB⟩:=d_.1 hj;rw[<-hhs];refine pE ((D.md y hy).1 j tB) (pL (PL y hy) ?_ (hr y hy));obtain⟨_,s',St⟩:=D.st y hy;rcases id St with⟨_,_,hj',_⟩|⟨_,_,_,_,hj',_⟩|⟨_,lh,_⟩
   ·rw[hj'] at tB;cases tB
   ·rw[hj'] at tB;cases tB
   ·exact lh
  have hpm:∀y∈pend,ig ops y.x.o y.s true->y.x.c=1->∀u,spot y.x.o.op=some u->∀j,BI (dn y.s u)=some j->j∈ps:=λy hy g1 g2 u hu j hj=>by
   rw[<-hps];exact pE ((D.md y hy).2 g1 g2 u hu j hj) (pL (PL y hy) g2 (hr y hy))
  have hX:∀z∈X.lk,z.1∉hs:=λz hz hm=>by
   by_cases hzq:z.1∈gm pend
   ·exact D.lk z.1 hzq z hz rfl
   ·obtain⟨_,k2,_,k4⟩:=D.I.lk z hz;have:=(fc hh).2.1 z.1 hm;rw[<-D.lJ.e z.1 hzq,k2] at this;exact k4 this
  have I2:=Pz (ps:=ps) D.I D.lJ hq hh hlH;have hO2:ja (B.wrap hs ps h1) ⟨s.fr,gW ps h1⟩ x.o.op a.eval:=λu hu=>by
   have e:dn (⟨s.fr,gW ps h1⟩:TS) u=dn s u:=by cases u<;>rfl
   rw[e];exact(hO u hu).jY (xC (ps:=ps) D.I D.lJ hq hh) λj hj=>zR (ps:=ps) D.I D.lJ hq hh (yX hlO u hu j hj)
  rw[<-hw];refine Uo (B:=B.wrap hs ps h1) (X:=X.wrap B hs ps h1) hd nn I2 rfl h hO2 λB2 tv v L2 I3 hv hk=> ?_
  have hk:(match oQ x.o.dst tv ⟨s.fr,restore (hs++ps) s.hp B2.H⟩ with|some s=>F s|none=>none)=some yv:=hk;split at hk;rotate_left
  ·cases hk
  rename_i s2 ui;obtain⟨L,L'⟩:=DC D.I D.lJ hq hh I3 L2;have I':=XZ D.I D.lJ hq hh hX I3 L2;have ue:=DB (ps:=ps) D.I D.lJ hq hh I3;have we:=lb (ps:=ps) D.I D.lJ hq hh;have hwl:(B.wrap hs ps h1).H.length=B.H.length:=by
   show(gW ps h1).length=_;rw[(jL ps h1).1,(fc hh).1,D.lJ.len]
  have Rz:B.H.length<=B2.H.length:=by
   cases hn:B.H.length with
   |zero=>exact ae5 _
   |succ m=>
    by_cases h1':((B.wrap hs ps h1).e m).st=1
    ·have:=L2.e m (by rw[h1'];decide);have:=jB this.1;omega
    ·obtain⟨k,_⟩:=nv (X':=X.wrap B hs ps h1) rfl I3 (j:=m) (by rw[hwl];omega) h1';omega
  have hlen:(B.fK B2 s.hp (gm pend) hs ps).H.length=B2.H.length:=by
   show(oS (gm pend) (restore (hs++ps) s.hp B2.H)).length=_;rw[(jh _ _).1,(fT _ _ _).1]
  have keep:∀j,j<B.H.length->(B.e j).st≠1->(B.fK B2 s.hp (gm pend) hs ps).e j=B.e j:=λj hj h1'=>by
   rcases ue j with⟨_,e,c,_⟩|⟨_,e,_⟩|⟨_,e,_⟩|⟨_,e,c⟩
   ·rw[e,c]
   ·exact e
   ·exact e
   ·have c:=c hj;obtain⟨_,k2,_⟩:=nv (X':=X.wrap B hs ps h1) rfl I3 (j:=j) (by rw[hwl];exact hj) (by rw[c];exact h1');rw[e,k2,c]
  have unH:∀j,j∉gm pend->(B.fK B2 s.hp (gm pend) hs ps).e j=nth .bu (restore (hs++ps) s.hp B2.H) j:=λj hj=>by
   show nth .bu (oS (gm pend) (restore (hs++ps) s.hp B2.H)) j=_;rw[(jh _ _).2,adq hj]
  refine hK (B.fK B2 s.hp (gm pend) hs ps) v s2 L (D.head hr (s1:=⟨s.fr,restore (hs++ps) s.hp B2.H⟩) L I' rfl ⟨?_,λj hj=> ?_,unH⟩ rfl ui (hv.mono L') hc (by rw[hlen];exact Rz) (λj hj=> ?_) (λj hj h=> ?_) (λj h=> ?_) (λy hy g1 g2 u hu j hj h2=> ?_) (λj hj=> ?_) λj h=> ?_) hk
  ·rw[hlen];show _=(restore (hs++ps) s.hp B2.H).length;rw[(fT _ _ _).1]
  ·show nth .bu (oS (gm pend) (restore (hs++ps) s.hp B2.H)) j=_;rw[(jh _ _).2,adp hj]
  ·show B2.b j=none;rcases ue j with⟨_,_,_,_,e⟩|⟨_,_,_,_,e⟩|⟨a,_⟩|⟨a,_⟩
   ·rw[e];exact D.bn j hj
   ·rw[e];exact D.bn j hj
   ·exact absurd (hq j hj) a
   ·exact absurd (hq j hj) a
  ·rw[keep j hj (by rw[h];decide)];exact h
  ·exact keep j (by
    apply jB;rw[h];decide) (by rw[h];decide)
  ·have Nk:=hpm y hy g1 g2 u hu j hj
   by_cases h1':(B.e j).st=1
   ·rcases ue j with⟨_,_,c,_⟩|⟨_,e,_⟩|⟨_,e,_⟩|⟨a,e,c⟩
    ·rw[c] at h1';cases h1'
    ·exact e
    ·exact e
    ·have c:=c (jB (by rw[h1'];decide));rcases we j with⟨b,_⟩|⟨_,_,_,e2⟩|⟨_,b,_⟩
     ·exact absurd b a
     ·rw[c] at e2;have:(B.e j).st=2:=by rw[e2]
      omega
     ·exact absurd ⟨Nk,h1'⟩ b
   ·exact keep j (jB ade) h1'
  ·show nth .bu (restore (hs++ps) s.hp B2.H) j=_;have hm:=hq j hj;have h1':=(fc hh).2.1 j hm;have nq:j<s.hp.length:=by
    apply aeg;intro h';rw[dw _ _ _ h'] at h1';cases h1'
   rw[(fT _ _ _).2,adp ⟨adM _ hm,nq,by rw[<-D.lJ.len] at nq;omega⟩]
  ·show(nth .bu (restore (hs++ps) s.hp B2.H) j).st=0;have Jc:j∉hs:=λhm=>by rw[(fc hh).2.1 j hm] at h;cases h
   have DL:j∉gm pend:=λhm=>Jc (hq j hm)
   have hB:B.e j=nth .bu s.hp j:=D.lJ.e j DL;rw[<-unH j DL,keep j (jB (by rw[hB,h];decide)) (by rw[hB,h];decide),hB];exact h
end
end
noncomputable section
variable [pf]
theorem yy {α:Type} {p p':α->Bool} (hpp:∀x,p' x=true->p x=true):∀{l:List α},l.countP p'<=l.countP p/\∀{x:α},x∈l->p x=true->p' x=false->l.countP p'<l.countP p
 |[]=>⟨adw _,λh=>by cases h⟩
 |y::l=>by
  obtain⟨h1,h2⟩:=yy hpp (l:=l);rw[List.countP_cons,List.countP_cons];refine⟨?_,λ{x} hx hp hp'=> ?_⟩
  ·by_cases e:p' y=true
   ·rw[adp e,adp (hpp y e)];omega
   ·rw[adq e];omega
  ·rcases adK.1 hx with rfl|hx
   ·rw[hp,hp'];simp;omega
   ·have:=h2 hx hp hp'
    by_cases e:p' y=true
    ·rw[adp e,adp (hpp y e)];omega
    ·rw[adq e];omega
def Open (pend:List It) (rest:List Dr) (i:Nat):Prop:=(∃y∈pend,y.x.i=i)\/∃x∈rest,x.i=i
section
variable {T:CT} (hd:20<=T.P.depth) {call:{ρ:Type}->eZ ρ} {ops:Array Oper} {X:Fx} {ρ:Type} {F:TS->R ρ} {yv:ρ}
include hd
theorem iL.Us:∀(rest:List Dr) {pend:List It} {done:List Dr} {md:List (Nat×Nat)} {s:TS} {B:Bs} {a:Act} {w:World},iL T ops X pend rest md s B a w->(∀y∈pend,y.x∈done)->(∀x∈rest,x.c=2->∃d,x.o.dst=some d)->kX T call ops rest done md s F=some yv->
 ∃pend' rest' done' md' s' B',bo B B'/\iL T ops X pend' rest' md' s' B' a w/\(∀y∈pend',y.x∈done')/\kX T call ops rest' done' md' s' F=some yv/\(∀i,Open pend' rest' i↔Open pend rest i)/\(∀x∈rest',x∈rest)/\(rest'=[]\/∃x r,rest'=x::r/\2<x.c)
 |[],pend,done,md,s,B,a,w,D,PL,_,h=>⟨pend,[],done,md,s,B,bo.refl B,D,PL,h,λ_=>Iff.rfl,λ_ h=>h, .inl rfl⟩
 |x::rest,pend,done,md,s,B,a,w,D,PL,h2,h=>by
  by_cases hc:x.c<=2
  ·obtain⟨o1,o2,o3,o4⟩:=D.ok x (.inl adt);obtain⟨t,s',e1,e2,St,hk⟩:=Pa (K:=λs'=>kX T call ops rest (x::done) (fJ x s s'++md) s' F) hd o2 hc h;subst e1;subst e2;obtain⟨B',c,D'⟩:=D.UI St hc (h2 t.x adt);obtain⟨p',r',d',m',s1,B1,q1,q2,q3,q4,q5,q6,q7⟩:=iL.Us rest D' (done:=t.x::done) (λy hy=>(adK.1 hy).elim (λe=>by rw[e];exact adt) λhy=>ady _ (PL y hy)) (λx hx=>h2 x (ady _ hx)) hk;refine⟨p',r',d',m',s1,B1,c.L.trans q1,q2,q3,q4,λi=>(q5 i).trans ?_,λx hx=>ady _ (q6 x hx),q7⟩;constructor
   ·rintro(⟨y,hy,e⟩|⟨z,hz,e⟩)
    ·rcases adK.1 hy with e'|hy
     ·exact .inr ⟨t.x,adt,by rw[<-e'];exact e⟩
     ·exact .inl ⟨y,hy,e⟩
    ·exact .inr ⟨z,ady _ hz,e⟩
   ·rintro(⟨y,hy,e⟩|⟨z,hz,e⟩)
    ·exact .inl ⟨y,ady _ hy,e⟩
    ·rcases adK.1 hz with e'|hz
     ·exact .inl ⟨t,adt,by rw[<-e'];exact e⟩
     ·exact .inr ⟨z,hz,e⟩
  ·exact⟨pend,x::rest,done,md,s,B,bo.refl B,D,PL,h,λ_=>Iff.rfl,λ_ h=>h, .inr ⟨x,rest,rfl,ade⟩⟩
variable (nn:jk T.P call) (hb:kQ ops.toList 0=true) {B0:Bs} {a0:Act} {wr:List (Nat×TypeId)} (hwr:∀o∈ops.toList,∀d,o.dst=some d->cH d wr≠none) {Q:Exit->Act->World->Prop} {r:Option Nat} {m:Nat}
 (hQ:∀B' s' a' w',bo B0 B'->bw X B'->gC B' s' a' w'->dO wr a0 a'->F s'=some yv->Q .normal a' w')
include nn hb hwr hQ
theorem KJ:∀(fuel:Nat) (listed:Array Bool) (pend:List It) (rest done:List Dr) (md:List (Nat×Nat)) (s:TS) (B:Bs) (a:Act) (w:World),listed.size=ops.size->(List.range ops.size).countP (λi=> !listed.getD i false)<=fuel->
 iL T ops X pend rest md s B a w->(∀y∈pend,y.x∈done)->(∀x∈rest,x.c=2->∃d,x.o.dst=some d)->kX T call ops rest done md s F=some yv->bo B0 B->dO wr a0 a->(∀i,i<ops.size->(listed.getD i false=false↔Open pend rest i))->(∀j,j<ops.size->listed.getD j false=true->∀k,bit (Ka ops j) k=true->listed.getD k false=true)->wpAnyIn (Wf r) m T.P .any ops Q fuel listed a w:=by
 have ready:∀{listed:Array Bool} {i:Nat},i∈Region.ready .any ops listed↔listed.getD i true=false/\∃o,ops[i]? =some o/\∀e∈o.after,Region.binds .any e=true->listed.getD e.on false=true:=λ{listed i}=>mem_ready
 have getT:∀{listed:Array Bool} {i:Nat},listed.getD i true=false->i<listed.size/\listed.getD i false=false:=λ{listed i} h=>by
  rw[adD] at h;cases hx:listed[i]? with
  |none=>rw[hx] at h;cases h
  |some b=>
   rw[hx] at h;refine⟨(ae3.1 hx).1,?_⟩;rw[adD,hx];exact h
 have getF:∀{listed:Array Bool} {i:Nat},listed.size=ops.size->i<ops.size->listed.getD i false≠true->listed.getD i true=false:=λ{listed i} hs hi h=>by
  rw[adD] at h⊢;cases hx:listed[i]? with
  |none=>rw[Array.getElem?_eq_none_iff] at hx;omega
  |some b=>rw[hx] at h;cases b with|false=>rfl|true=>exact absurd rfl h
 have all':∀{listed:Array Bool},listed.size=ops.size->Region.ready .any ops listed=[]->∀i,i<ops.size->listed.getD i false=true:=λ{listed} hs hr i=>by
  induction i using Nat.strongRecOn with
  |_ i ih=>
   intro hi;exact Classical.byContradiction λh=>by
    have ug:i∈Region.ready .any ops listed:=ready.2 ⟨getF hs hi h,ops[i],adX hi,λe he hbi=>by
     have iJ:=pj hb i ops[i] (by rw[adU,adX hi]) e (by simpa using he) hbi;exact ih e.on ade ade⟩
    rw[hr] at ug;cases ug
 have fin:∀{listed:Array Bool} {pend:List It} {rest done:List Dr} {md:List (Nat×Nat)} {s:TS} {B:Bs} {a:Act} {w:World},iL T ops X pend rest md s B a w->kX T call ops rest done md s F=some yv->bo B0 B->dO wr a0 a->(∀i,i<ops.size->(listed.getD i false=false↔Open pend rest i))->(∀i,i<ops.size->listed.getD i false=true)->Q .normal a w:=λ{listed pend rest done md s B a w} D h L Kp hl dj=>by
  have no:∀i,i<ops.size->¬Open pend rest i:=λi hi h=>by
   have:=(hl i hi).2 h;rw[dj i hi] at this;cases this
  have np:pend=[]:=by
   cases pend with
   |nil=>rfl
   |cons y r=>exact absurd (.inl ⟨y,adt,rfl⟩) (no y.x.i (ae3.1 (D.ok y.x (.inr ⟨y,adt,rfl⟩)).1).1)
  have nr:rest=[]:=by
   cases rest with
   |nil=>rfl
   |cons x r=>exact absurd (.inr ⟨x,adt,rfl⟩) (no x.i (ae3.1 (D.ok x (.inl adt)).1).1)
  subst np;subst nr;refine hQ B s a w L D.I ⟨?_,D.w,D.n,λt=>(D.sl t).resolve_right (λ⟨z,hz,_⟩=>(by cases hz)),D.df⟩ Kp h;refine List.ext_getElem? λj=> ?_
  have hj:=D.lJ.e j (λh=>by cases h);have hl:=D.lJ.len;have hj:nth .bu B.H j=nth .bu s.hp j:=hj;rw[qU,qU] at hj
  by_cases iJ:j<s.hp.length
  ·rw[ae2 iJ,ae2 ade] at hj⊢;exact congrArg some hj.symm
  ·rw[List.getElem?_eq_none ade,List.getElem?_eq_none ade]
 intro fuel
 induction fuel with
 |zero=>
  intro listed pend rest done md s B a w hs hc D PL h2 h L Kp hl jq;have dj:∀i,i<ops.size->listed.getD i false=true:=λi hi=>by
   have h0:=List.countP_eq_zero.1 (Nat.le_zero.1 hc) i (adL.2 hi);simpa using h0
  refine⟨?_,fin D h L Kp hl dj⟩;cases hr:Region.ready .any ops listed with
  |nil=>rfl
  |cons i l=>
   exfalso;have hi:i∈Region.ready .any ops listed:=by rw[hr];exact adt ..
   obtain⟨h1,_⟩:=ready.1 hi;obtain⟨h2,h3⟩:=getT h1;rw[dj i ade] at h3;cases h3
 |succ fuel ih=>
  intro listed pend rest done md s B a w hs hc D PL h2 h L Kp hl jq;refine⟨λhr=>fin D h L Kp hl (all' hs hr),λi hi=> ?_⟩;obtain⟨pend,rest',done',md',s',B',q1,D',q3,q4,q5,q6,q7⟩:=iL.Us hd rest D PL h2 h;have h2':∀x∈rest',x.c=2->∃d,x.o.dst=some d:=λx hx=>h2 x (q6 x hx)
  have hl':∀i,i<ops.size->(listed.getD i false=false↔Open pend rest' i):=λi hi=>(hl i hi).trans (q5 i).symm
  have L':=L.trans q1;obtain⟨h1,o,ho,hon⟩:=ready.1 hi;obtain⟨WY,hiF⟩:=getT h1;rw[hs] at WY;have rd:∀k,bit (Ka ops i) k=true->listed.getD k false=true:=λk hk=>by
   obtain⟨e,e1,e2,e3,e4⟩:=Ho hb ho hk;have hDe:=hon e (by simpa using e1) e2;rcases e4 with e4|e4
   ·rw[e4];exact hDe
   ·exact jq e.on ade hDe k e4
  have hD':∀j,(listed.setIfInBounds i true).getD j false=true↔listed.getD j false=true\/j=i:=λj=>by
   rw[adD,Array.getElem?_setIfInBounds]
   by_cases e:i=j
   ·subst e;rw[adp rfl,adh];exact⟨λ_=> .inr rfl,λ_=>rfl⟩
   ·rw[adq e,<-adD];exact⟨.inl,λh=>h.resolve_right λh2=>e h2.symm⟩
  have hs':(listed.setIfInBounds i true).size=ops.size:=by rw[Array.size_setIfInBounds,hs]
  have hc':(List.range ops.size).countP (λj=> !(listed.setIfInBounds i true).getD j false)<=fuel:=by
   have:=(yy (p:=λj=> !listed.getD j false) (p':=λj=> !(listed.setIfInBounds i true).getD j false) (λx hx=>by
    have hx':¬(listed.setIfInBounds i true).getD x false=true:=by simpa using hx
    rw[hD'] at hx';have:¬listed.getD x false=true:=λh=>hx' (.inl h)
    simpa using this) (l:=List.range ops.size)).2 (adL.2 WY) (by rw[hiF];rfl) (by rw[(hD' _).2 (.inr rfl)];rfl)
   omega
  have hcl':∀j,j<ops.size->(listed.setIfInBounds i true).getD j false=true->∀k,bit (Ka ops j) k=true->(listed.setIfInBounds i true).getD k false=true:=λj hj h k hk=>by
   rw[hD'] at h⊢;rcases h with h|h
   ·exact .inl (jq j hj h k hk)
   ·exact .inl (rd k (by rw[<-h];exact hk))
  have open':∀{p':List It} {r':List Dr},(∀j,Open p' r' j↔Open pend rest' j/\j≠i)->∀j,j<ops.size->((listed.setIfInBounds i true).getD j false=false↔Open p' r' j):=λ{p' r'} ho j hj=>by
   rw[ho j,<-hl' j hj];cases hx:(listed.setIfInBounds i true).getD j false with
   |true=>
    rcases(hD' j).1 hx with h|h
    ·rw[h];exact⟨λh=>(by cases h),λh=>(by cases h.1)⟩
    ·exact⟨λh=>(by cases h),λk=>absurd h k.2⟩
   |false=>
    refine⟨λ_=>⟨?_,λe=> ?_⟩,λ_=>rfl⟩
    ·cases hy:listed.getD j false with
     |false=>rfl
     |true=>rw[(hD' j).2 (.inl hy)] at hx;cases hx
    ·rw[(hD' j).2 (.inr e)] at hx;cases hx
  have kp:∀v,dO wr a0 (a.put o.dst v):=λv=>Kp.trans (dO.put λe he=>hwr o (by rw[<-Array.mem_def];exact Array.mem_of_getElem? ho) e he)
  have nopend:∀z∈pend,bit (Ka ops i) z.x.i=false:=λz hz=>by
   cases hb':bit (Ka ops i) z.x.i with
   |false=>rfl
   |true=>
    have h3:=rd z.x.i hb';have h4:=(hl' z.x.i (ae3.1 (D'.ok z.x (.inr ⟨z,hz,rfl⟩)).1).1).2 (.inl ⟨z,hz,rfl⟩);rw[h4] at h3;cases h3
  rcases(hl' i WY).1 hiF with⟨y,hy,e⟩|⟨x,hx,e⟩
  ·subst e;obtain⟨o1,o2,o3,o4⟩:=D'.ok y.x (.inr ⟨y,hy,rfl⟩);rw[ho] at o1;have hoo:o=y.x.o:=Option.some.inj o1;subst hoo;refine D'.run hy (λz hz=>by rw[o3];exact nopend z hz) λB2 v L2 D2=> ?_
   refine ih (listed.setIfInBounds y.x.i true) (p8 pend y) rest' done' md' s' B2 _ _ hs' hc' D2 (λz hz=>q3 z (dW.1 hz).1) h2' q4 (L'.trans L2) (kp v) (open' λj=>⟨?_,?_⟩) hcl'
   ·rintro(⟨z,hz,e⟩|⟨x,hx,e⟩)
    ·obtain⟨k1,k2⟩:=dW.1 hz;exact⟨.inl ⟨z,k1,e⟩,by rw[<-e];exact k2⟩
    ·exact⟨.inr ⟨x,hx,e⟩,λe'=>(D'.ah y hy x hx).ne (by rw[e,e'])⟩
   ·rintro⟨⟨z,hz,e⟩|h,qd⟩
    ·exact .inl ⟨z,dW.2 ⟨hz,by rw[e];exact qd⟩,e⟩
    ·exact .inr h
  ·rcases q7 with q7|⟨x0,r0,q7,Rt⟩
   ·rw[q7] at hx;cases hx
   subst q7;have ex:x=x0:=by
    rcases adK.1 hx with h|hx
    ·exact h
    ·exfalso;rcases(D'.rp _ _ (.here hx)).b with hb'|⟨h,_⟩
     ·rw[(D'.ok x (.inl (ady _ hx))).2.2.1,e] at hb';have h3:=rd x0.i hb';have h4:=(hl' x0.i (ae3.1 (D'.ok x0 (.inl adt)).1).1).2 (.inr ⟨x0,adt,rfl⟩);rw[h4] at h3;cases h3
     ·omega
   subst ex;subst e;obtain⟨o1,o2,o3,o4⟩:=D'.ok x (.inl adt);rw[ho] at o1;have hoo:o=x.o:=Option.some.inj o1;subst hoo;refine D'.a9n (F:=λs2=>kX T call ops r0 (x::done') (fJ x s' s2++md') s2 F) (λz hz=>by rw[o3];exact nopend z hz) hd nn q3 Rt q4 λB2 v s2 L2 D2 hk=> ?_
   refine ih (listed.setIfInBounds x.i true) pend r0 (x::done') _ s2 B2 _ _ hs' hc' D2 (λz hz=>ady _ (q3 z hz)) (λz hz=>h2' z (ady _ hz)) hk (L'.trans L2) (kp v) (open' λj=>⟨?_,?_⟩) hcl'
   ·rintro(⟨z,hz,e⟩|⟨z,hz,e⟩)
    ·exact⟨.inl ⟨z,hz,e⟩,λe'=>(D'.ah z hz x adt).ne (by rw[e,e'])⟩
    ·exact⟨.inr ⟨z,ady _ hz,e⟩,λe'=>(D'.rp _ _ (.here hz)).ne (by rw[e,e'])⟩
   ·rintro⟨⟨z,hz,e⟩|⟨z,hz,e⟩,qd⟩
    ·exact .inl ⟨z,hz,e⟩
    ·rcases adK.1 hz with h|hz
     ·exact absurd (by rw[<-e,h]) qd
     ·exact .inr ⟨z,hz,e⟩
end
theorem oo {T:CT} {X:Fx}:∀(l:List Oper) {B:Bs} {s s':TS} {a:Act} {w:World},bw X B->gC B s a w->l7 T l s=some s'->∃B',bo B B'/\bw X B'/\gC B' s' a w
 |[],B,s,s',a,w,I,S,h=>by
  have h:some s=some s':=h;cases h;exact⟨B,bo.refl B,I,S⟩
 |o::r,B,s,s',a,w,I,S,h=>by
  have h:(match o.dst with
   |some d=>(match nth .bU s.fr d with
    | .nl=>(match OO T (some d) o.type .nl s with|some s=>l7 T r s|none=>none)
    |_=>l7 T r s)
   |none=>l7 T r s)=some s':=h
  split at h
  ·rename_i d hd;split at h
   ·rename_i hn;split at h;rotate_left
    ·cases h
    rename_i s1 hp;have hv:=S.sl d;rw[hn] at hv;obtain⟨B1,L1,I1,S1⟩:=AX I S hv hp;obtain⟨B2,L2,I2,S2⟩:=oo r I1 S1 h;refine⟨B2,L1.trans L2,I2,S2.H,S2.w,?_,λt=> ?_,S2.df⟩
    ·have:=S2.n;rw[show(a.put (some d) (a.tmps.getD d undef)).tmps.size=a.tmps.size from Array.size_setIfInBounds] at this;exact this
    ·have:=S2.sl t;rw[show(a.put (some d) (a.tmps.getD d undef)).tmps.getD t undef=a.tmps.getD t undef from ?_] at this
     ·exact this
     ·show(a.tmps.setIfInBounds d _).getD t undef=_;rw[jR]
      by_cases e:t=d/\d<a.tmps.size
      ·rw[adp e,e.1]
      ·rw[adq e]
   ·exact oo r I S h
  ·exact oo r I S h
theorem OV {T:CT} (hd:20<=T.P.depth) (hm:T.P.follows .mixedOrders=true):oV T true:=by
 intro ρ call X B id ops s a w r n F y Q hc I S h hK;have h:(bif kQ ops.toList 0&&vA (Qf T.P ops) ops.size then kX T call ops (Qf T.P ops) [] [] s λs=>(match l7 T ops.toList s with|some s=>F s|none=>none) else none)=some y:=h;obtain⟨hbd,h⟩:=aQ h;rw[adr] at hbd;obtain⟨hb,hdr⟩:=hbd;obtain⟨d1,d2,d3⟩:=E3 hdr;refine wpIn_region_any hm ?_;have L1:bo B ⟨B.F0,B.H,B.bs,{B.w with drawn:=B.w.drawn+1}⟩:=⟨λ_ _ _ fz h1 h2=>⟨h1,fz,h2⟩,λ_ h=>⟨h,rfl,cu _⟩⟩;have I1:bw X ⟨B.F0,B.H,B.bs,{B.w with drawn:=B.w.drawn+1}⟩:=⟨I.len,λj=>(I.bP j).mono L1 (λ_ _ _=>rfl),I.inj,I.lo,I.fr,I.old,I.nx,I.xo,I.io,I.F0,λx hx=>(I.DO x hx).mono L1,I.lk⟩;have hB:B.w=w:=S.w;have Cp:∀i,(Array.replicate ops.size false).getD i false=false:=λi=>by
  rw[adD,Array.getElem?_replicate];split<;>rfl
 refine KJ (B0:=B) (a0:=a) (wr:=cn (.region id ops true)) hd hc hb (λo ho d hd=>BA ho hd) (λB' s' a' w' L I' S' Kp hk=> ?_) ops.size _ [] (Qf T.P ops) [] [] s ⟨B.F0,B.H,B.bs,{B.w with drawn:=B.w.drawn+1}⟩ a _ (by simp) (by
  have:(List.range ops.size).countP (λi=> !(Array.replicate ops.size false).getD i false)<=(List.range ops.size).length:=List.countP_le_length;simpa using this) ⟨hb,I1,by rw[<-hB],S.df,S.n,⟨by rw[S.H],λj hj=>(by cases hj),λj _=>by rw[S.H];rfl⟩,λj hj=>(by cases hj),λt=> .inl ((S.sl t).mono L1),λz hz=>(by cases hz),λz hz=>(by cases hz),λz hz=>(by cases hz),λz hz=>(by cases hz),λz hz=>(by cases hz),λz hz=>(by cases hz),λz hz=>(by cases hz),λj hj=>(by cases hj),λz hz=>(by cases hz),λz hz=>(by cases hz),λz hz=>(by cases hz),λz hz=>(by cases hz),λx y h=>d3 x y h,λx hx=>hx.elim (λh=>KI h) λ⟨z,hz,_⟩=>(by cases hz)⟩ (λz hz=>(by cases hz)) (λx hx=>d2 x hx) h L1 (dO.refl _ _) (λi hi=>⟨λ_=> .inr (d1 i hi),λ_=>Cp i⟩) (λj _ hj=>by rw[Cp] at hj;cases hj)
 split at hk;rotate_left
 ·cases hk
 rename_i s2 ho;obtain⟨B2,L2,I2,S2⟩:=oo _ I' S' ho;exact hK B2 s2 a' w' (L.trans L2) I2 S2 Kp hk
theorem OW {T:CT} (hd:20<=T.P.depth) (hm:T.P.follows .mixedOrders=true):∀d,oV T d
 |true=>OV hd hm
 |false=>JJ hd
end
end Go.Proofs.YtbjcjppphoppfaaGreat.T
namespace Go.Proofs.YtbjcjppphoppfaaGreat.M
noncomputable section
class Zr (α:Type) where
 z:α
instance:Zr Int:=⟨0⟩
instance:Zr Nat:=⟨0⟩
instance:Zr Bool:=⟨false⟩
instance:Zr Unit:=⟨()⟩
instance {α:Type}:Zr (List α):=⟨[]⟩
instance {α β:Type} [Zr α] [Zr β]:Zr (α×β):=⟨(Zr.z,Zr.z)⟩
instance:Zr T.GV:=⟨.mk 0 0 [] [] false⟩
abbrev hY (t:T.Ty):t.T:=t.zero
def a8 {α:Type} [Zr α] (l:List α) (n:Nat):α:=l.getD n Zr.z
def ae {α:Type} (l:List α) (n:Nat) (x:α):List α:=l.set n x
def av {α:Type} (n:Nat) (l:List α):List α:=l.take n
def aH {α:Type} (n:Nat) (l:List α):List α:=l.drop n
def aw {α:Type} (l m:List α):List α:=l.append m
def bd {α:Type} (n:Nat) (x:α):List α:=List.replicate n x
def bM {α:Type} (x:α) (l:List α):List α:=x::l
def cC {α:Type} (c:Bool) (x y:α):α:=bif c then x else y
def bind {α ρ:Type} (x:Option α) (k:α->Option ρ):Option ρ:=Option.bind x k
def join (α:Type) {ρ:Type} (x:Option α) (k:α->Option ρ):Option ρ:=Option.bind x k
def bh {S E Q:Type} (s:S):Option (T.LR S E Q):=some (.ok s)
def lex {S E Q:Type} (s:E):Option (T.LR S E Q):=some (.ex s)
def bT {S E Q:Type} (s:Q):Option (T.LR S E Q):=some (.rt s)
def loop (S E Q:Type) {ρ:Type} (f:S->Option (T.LR S E Q)) (s:S) (kx:E->Option ρ) (kr:Q->Option ρ):Option ρ:=
 Option.bind (T.iter f 9223372036854775808 s) λr=>T.LR.rec (λ_=>none) kx kr r
def part (S E Q:Type) {ρ:Type} (x:Option (T.LR S E Q)) (k:S->Option ρ) (kx:E->Option ρ) (kr:Q->Option ρ):Option ρ:=Option.bind x λr=>T.LR.rec k kx kr r
end
end Go.Proofs.YtbjcjppphoppfaaGreat.M
namespace Go.Proofs.YtbjcjppphoppfaaGreat.T
noncomputable section
abbrev cy:Type:=((List Nat)×(Int×Unit))
abbrev eP:Ty:=(.pr .s (.pr (.i 3) .un))
abbrev KM (x y:cy):Bool:=eP.DJ x y
abbrev gJ:Type:=(Int×(GV×Unit))
abbrev xG:Ty:=(.pr (.i 3) (.pr .gv .un))
abbrev dh:Type:=(Int×(Nat×Unit))
abbrev lf:Ty:=(.pr (.i 3) (.pr (.u 7) .un))
abbrev BZ (x y:dh):Bool:=lf.DJ x y
abbrev aq:Type:=(Nat×((List Nat)×Unit))
abbrev aP:Ty:=(.pr (.u 7) (.pr (.sl (.u 4)) .un))
abbrev c9:Type:=(Nat×(GV×(Nat×Unit)))
abbrev nR:Ty:=(.pr (.u 7) (.pr .gv (.pr (.u 7) .un)))
abbrev nT:Type:=(Nat×(Int×(Int×Unit)))
abbrev jK:Ty:=(.pr (.u 4) (.pr (.i 3) (.pr (.i 3) .un)))
abbrev cq:Type:=(Int×(Int×(Bool×(GV×Unit))))
abbrev nQ:Ty:=(.pr (.i 3) (.pr (.i 3) (.pr .b (.pr .gv .un))))
abbrev ib:Type:=(Int×(Int×(Int×(Int×Unit))))
abbrev rQ:Ty:=(.pr (.i 3) (.pr (.i 3) (.pr (.i 3) (.pr (.i 3) .un))))
abbrev FY (x y:ib):Bool:=rQ.DJ x y
abbrev aX:Type:=(Nat×(Int×(Int×(Int×Unit))))
abbrev cK:Ty:=(.pr (.u 4) (.pr (.i 3) (.pr (.i 3) (.pr (.i 3) .un))))
abbrev na (x y:aX):Bool:=cK.DJ x y
abbrev bW:Type:=(Nat×(Nat×(Int×(Bool×(Nat×Unit)))))
abbrev mG:Ty:=(.pr (.u 7) (.pr (.u 7) (.pr (.i 3) (.pr .b (.pr (.u 7) .un)))))
abbrev cr:Type:=(Nat×(Int×(Int×(Nat×(Nat×Unit)))))
abbrev t_:Ty:=(.pr (.u 7) (.pr (.i 3) (.pr (.i 3) (.pr (.u 7) (.pr (.u 7) .un)))))
abbrev aT:Type:=(Nat×(Int×(Int×((List cy)×Unit))))
abbrev ca:Ty:=(.pr (.u 4) (.pr (.i 3) (.pr (.i 3) (.pr (.sl eP) .un))))
abbrev cW:Type:=(Int×(Int×(Nat×((List gJ)×Unit))))
abbrev tZ:Ty:=(.pr (.i 3) (.pr (.i 3) (.pr (.u 7) (.pr (.sl xG) .un))))
abbrev d8:Type:=(Nat×(Nat×(Nat×(Nat×(Nat×(Int×Unit))))))
abbrev fk:Ty:=(.pr (.u 4) (.pr (.u 7) (.pr (.u 7) (.pr (.u 7) (.pr (.u 7) (.pr (.i 3) .un))))))
abbrev nb (x y:d8):Bool:=fk.DJ x y
abbrev qj:Type:=((List Int)×(ib×Unit))
abbrev Ib:Ty:=(.pr (.sl (.i 3)) (.pr rQ .un))
abbrev bL:Type:=(Nat×(Nat×(Nat×(Nat×(Nat×(Nat×(Nat×Unit)))))))
abbrev gR:Ty:=(.pr (.u 7) (.pr (.u 7) (.pr (.u 7) (.pr (.u 7) (.pr (.u 7) (.pr (.u 7) (.pr (.u 7) .un)))))))
abbrev fD:Type:=((List dh)×((List dh)×(Int×(Int×Unit))))
abbrev yh:Ty:=(.pr (.sl lf) (.pr (.sl lf) (.pr (.i 3) (.pr (.i 3) .un))))
abbrev dp:Type:=((List aT)×((List aq)×Unit))
abbrev gB:Ty:=(.pr (.sl ca) (.pr (.sl aP) .un))
abbrev bY:Type:=((List Nat)×(Int×(Int×((List cy)×((List aX)×((List dh)×((List dh)×Unit)))))))
abbrev iE:Ty:=(.pr .s (.pr (.i 3) (.pr (.i 3) (.pr (.sl eP) (.pr (.sl cK) (.pr (.sl lf) (.pr (.sl lf) .un)))))))
abbrev bC:Type:=(Nat×(Int×((List cW)×((List cq)×((List c9)×Unit)))))
abbrev eQ:Ty:=(.pr (.u 4) (.pr (.i 3) (.pr (.sl tZ) (.pr (.sl nQ) (.pr (.sl nR) .un)))))
abbrev mT:Type:=(Nat×(Int×(Int×((List bC)×Unit))))
abbrev BB:Ty:=(.pr (.u 4) (.pr (.i 3) (.pr (.i 3) (.pr (.sl eQ) .un))))
abbrev aK:Type:=((List aT)×((List (List Nat))×((List bY)×Unit)))
abbrev bJ:Ty:=(.pr (.sl ca) (.pr (.sl .s) (.pr (.sl iE) .un)))
abbrev de:Type:=(aK×(bY×Unit))
abbrev dg:Ty:=(.pr bJ (.pr iE .un))
abbrev bf:Type:=(aK×(ib×(aq×((List aq)×((List d8)×(Int×Unit))))))
abbrev bH:Ty:=(.pr bJ (.pr rQ (.pr aP (.pr (.sl aP) (.pr (.sl fk) (.pr (.i 3) .un))))))
abbrev fC:Type:=(bf×((List aq)×Unit))
abbrev gb:Ty:=(.pr bH (.pr (.sl aP) .un))
noncomputable abbrev Pr:Program:=Go.Proofs.Tryz.prog
end
end Go.Proofs.YtbjcjppphoppfaaGreat.T
