import Derived.Test.YtbjcjppphoppfaaGreatEAF
import Derived.MapKept
set_option linter.all false
namespace Go.Proofs.YtbjcjppphoppfaaGreat.T
open Go
noncomputable section
theorem Seq.src {P:Program} {z:Nat} {x:Value} {m:Nat} {news:List Value} {w:World} {tx:TypeId} (hk:(∃e',P.underlying tx=some (.slice e'))\/P.underlying tx=some .string) (h:Seq P z x m news w):Go.Src P z tx x m news w:=by
 have e:news.take (m*z)=news:=List.take_of_length_le (by rw[h.size];exact adw _);exact⟨hk,h.len,by have:=h.cells w rfl m (adw _);rwa [e] at this,by have:=h.cells w.drew rfl m (adw _);rwa [e] at this,h.size,h.one⟩
theorem yP {T:CT} {t:TypeId} (h:NB T t=true):(∃e',T.P.underlying t=some (.slice e'))\/T.P.underlying t=some .string:=by
 unfold NB at h;split at h
 ·rename_i hu;exact .inl ⟨_,(bp hu).1⟩
 ·rename_i hu;exact .inr (bp hu).1
 ·cases h
theorem Ff (need old:Nat) (h:old<need) (hn:need<=1073741824):Builtin.nextslicecap need old<=4294967296:=by
 have g:∀r c,c<=1073741824*2->(∀c',c'<need->c'+(c'+768)/4<=1073741824*2)->Builtin.growBy need r c<=1073741824*2:=by
  intro r
  induction r with
  |zero=>intro c hc _;exact hc
  |succ r ih=>
   intro c hc hs;unfold Builtin.growBy;split
   ·exact hc
   ·exact ih _ (hs c ade) hs
 unfold Builtin.nextslicecap;split
 ·omega
 ·split
  ·omega
  ·exact aem (g 4 old ade λc' hc'=>ade) ade
theorem bQ.app {α:Type} {P:α->(Nat->Value)->Nat->Prop} {z:Nat}:∀{l m:List α} {c:Nat->Value} {o:Nat},bQ P z l c o->bQ P z m c (o+l.length*z)->bQ P z (l++m) c o
 |[],m,c,o,_,h=>by rw[adR,aen] at h;exact h
 |x::l,m,c,o,⟨h1,h2⟩,h=>by
  refine⟨h1,bQ.app h2 ?_⟩;rw[adB,aei,aeo] at h;rw[show o+z+l.length*z=o+(l.length*z+z) by omega];exact h
theorem KC {l m:List Value} {i:Nat} (h:i<l.length):cl (l++m) i=cl l i:=by
 unfold cl;rw[adG,adG,List.getElem?_append_left h]
theorem KD {l m:List Value} {i:Nat}:cl (l++m) (l.length+i)=cl m i:=by
 unfold cl;rw[adG,adG,List.getElem?_append_right ade,ae1]
theorem nS (z:Array Value) (n:Nat):(Builtin.zeroCells z n).size=n*z.size:=by simp[Builtin.zeroCells]
theorem BR {T:CT} {X:Fx} {B:Bs} {t u ty ε:TypeId} {n:Nat} {e:Ty} {L0 m:(Ty.sl e).T} {q:Value} {news:List Value} {ad:Option Addr} {c:Nat}
 (ht:bU T.P t=some (.slice ε)) (hk:(∃e',T.P.underlying u=some (.slice e'))\/T.P.underlying u=some .string) (yI:yt T ε e=true) (hs:Seq T.P e.cells q (List.length m) news B.w) (hr:bQ (bI B.F B.w e) e.cells m (cl news) 0) (hc:n+List.length m<=1073741824)
 (qf:List.length L0=n) (hnc:n<=c) (Cq:¬n+List.length m<=c) (h0:¬List.length m=0) {olds:List Value} (so:Seq T.P e.cells (.slice ad n c) n olds B.w) (ro:bQ (bI B.F B.w e) e.cells L0 (cl olds) 0):
 lp T.P B (Builtin.append_ #[t,u] ty #[.slice ad n c,q]) (λ_=>True) (.row e (L0++m:List e.T)) .r:=by
 have _:=X;unfold yt at yI;simp only[adr] at yI;obtain⟨⟨k1,k2,k3⟩,k4,k5⟩:=yI;have k1:=adv k1;have k4:=adu k4;obtain⟨i,zv,Z⟩:=gd k5 k3;have hi:T.P.info? ε=some i:=dm Z.info;have H7:i.size=e.cells:=by rw[<-g9 Z.info,k4]
 have hib:i.bytes<=65536:=by unfold bytesOf at k1;rw[Z.info] at k1;exact k1
 have b2:1<=e.cells:=by rw[<-k4];exact adv k2
 have xZ:List.length (L0++m)=n+List.length m:=by rw[ado,qf]
 have b62:n+List.length m<dU:=Nat.lt_of_le_of_lt hc (by decide);have src:Go.Src T.P i.size u q (List.length m) news B.w:=by rw[H7];exact hs.src hk
 have Nh:Builtin.nextslicecap (n+List.length m) c*i.bytes<=281474976710656:=by
  have:=Nat.mul_le_mul (Ff (n+List.length m) c ade hc) hib;omega
 have ho:olds.take (n*e.cells)=olds:=List.take_of_length_le (by rw[so.size];exact adw _);have wb:=run_append_grow_src B.w (ty:=ty) t u ε i zv (bp ht).1 hi Z.z ad n c olds (by rw[H7];have:=so.cells B.w.drew rfl n (adw _);rwa [ho] at this) q (List.length m) news src ade ade Nh;have hge:=grownCap_ge B.w (n+List.length m) c ε;have hlen:(olds++news).length=(n+List.length m)*e.cells:=by rw[ado,so.size,hs.size,aei]
 have Mk:lp T.P B (Builtin.append_ #[t,u] ty #[.slice ad n c,q]) (λ_=>True) (.row e (L0++m:List e.T)) .r:=by
  refine og (ty:=ε) (fz:=(0,0)) (cap:=grownCap B.w (n+List.length m) c ε) (cs:=(olds++news).toArray++Builtin.zeroCells zv.cells (grownCap B.w (n+List.length m) c ε-(n+List.length m)))
   (w':=B.w.drew.alloc (.cells ((olds++news).toArray++Builtin.zeroCells zv.cells (grownCap B.w (n+List.length m) c ε-(n+List.length m))) ε)) (by rw[xZ];exact b62) b2 (by rw[xZ];exact hge) ?_ (.inl rfl) (by rw[xZ];exact wb) rfl ⟨rfl,rfl⟩ ?_
  ·rw[Array.size_append,List.size_toArray,hlen,nS,Z.size,<-aei];exact ae4 _ ade
  ·have a0a:∀k,k<(olds++news).length->fw ((olds++news).toArray++Builtin.zeroCells zv.cells (grownCap B.w (n+List.length m) c ε-(n+List.length m))) k=cl (olds++news) k:=λk hk=>by
    unfold fw cl;rw[adD,adG,Array.getElem?_append,adp (by rw[List.size_toArray];exact hk),List.getElem?_toArray]
   refine bQ.app ?_ ?_
   ·refine bQ.dP (λx _ _ _ _=>bI.dP e x) _ (λk hk=> ?_) ro;rw[qf] at hk;rw[adI,a0a k (by rw[hlen,aei];omega),KC (by rw[so.size];exact hk)]
   ·rw[qf,adI];refine bQ.dP (λx _ _ _ _=>bI.dP e x) _ (λk hk=> ?_) hr;rw[a0a _ (by rw[hlen,aei];omega),<-so.size,KD,adI]
 exact Mk
theorem Ks {T:CT} {X:Fx} {B:Bs} (I:bw X B) {t u ty ε:TypeId} {j n:Nat} {e:Ty} {l0 m:(Ty.sl e).T} {p q:Value} {news:List Value} (hE:B.e j=⟨1, .row e l0⟩) (hn:n<=List.length l0) (hp:fH (B.b j) e.cells 0 n p)
 (ht:bU T.P t=some (.slice ε)) (hk:(∃e',T.P.underlying u=some (.slice e'))\/T.P.underlying u=some .string) (yI:yt T ε e=true) (hs:Seq T.P e.cells q (List.length m) news B.w) (hr:bQ (bI B.F B.w e) e.cells m (cl news) 0) (hc:n+List.length m<=1073741824):
 ∃B2 r,bo B B2/\bw X B2/\B2.H=jo B.H j++[⟨1, .row e (aw (e:=e) (av (e:=e) n l0) m)⟩]/\Rv B2 (.r B.H.length) r/\(Builtin.append_ #[t,u] ty #[p,q]).run T.P B.w= .ok r B2.w:=by
 have a84:=yI;unfold yt at yI;simp only[adr] at yI;obtain⟨⟨k1,k2,k3⟩,k4,k5⟩:=yI;have k1:=adv k1;have k4:=adu k4;obtain⟨i,zv,Z⟩:=gd k5 k3;have hi:T.P.info? ε=some i:=dm Z.info;have H7:i.size=e.cells:=by rw[<-g9 Z.info,k4]
 have hib:i.bytes<=65536:=by unfold bytesOf at k1;rw[Z.info] at k1;exact k1
 have kY:(B.e j).st=1:=by rw[hE]
 have xZ:List.length (List.take n l0++m)=n+List.length m:=by rw[ado,adY];omega
 have qf:List.length (List.take n l0)=n:=by rw[adY];omega
 have b62:n+List.length m<dU:=Nat.lt_of_le_of_lt hc (by decide);have hB:=I.bP j;rw[hE] at hB;obtain⟨b1,b2,b3⟩:=hB (show 1<=2 by decide);have src:Go.Src T.P i.size u q (List.length m) news B.w:=by rw[H7];exact hs.src hk
 obtain⟨_,ad,c,rfl,hnc⟩:=r8 hp (ae5 0) (ae5 n);have stay:∀{w':World} {cap:Nat},(∀b,b<B.w.heap.size->(∀s,B.b j≠some (b,s))->w'.heap[b]? =B.w.heap[b]?)->w'.heap.size=B.w.heap.size->dY B.w w'->
  (bo B (B.mv j (.row e (List.take n l0++m:List e.T)) (B.b j) w')->lg (B.mv j (.row e (List.take n l0++m:List e.T)) (B.b j) w') ⟨1, .row e (List.take n l0++m:List e.T)⟩ (B.b j))->fH (B.b j) e.cells 0 (n+List.length m) (.slice ad (n+List.length m) cap)->
  (Builtin.append_ #[t,u] ty #[.slice ad n c,q]).run T.P B.w= .ok (.slice ad (n+List.length m) cap) w'->∃B2 r,bo B B2/\bw X B2/\B2.H=jo B.H j++[⟨1, .row e (aw (e:=e) (av (e:=e) n l0) m)⟩]/\Rv B2 (.r B.H.length) r/\(Builtin.append_ #[t,u] ty #[.slice ad n c,q]).run T.P B.w= .ok r B2.w:=by
  intro w' cap h1 h2 h3 h4 h5 h6;obtain⟨L,I'⟩:=I.mv kY h1 (Nat.le_of_eq h2.symm) h3 (λb s h=> .inr h) h4;refine⟨_,_,L,I',rfl,?_,h6⟩;refine mkR (e:=e) (l:=(List.take n l0++m:List e.T)) (by rw[CR];exact show 1≠7 by decide) (by rw[CR]) ?_;rw[CQ I.len,xZ];exact h5
 by_cases h0:List.length m=0
 ·have hm:m=[]:=aeh h0;have X2:news=[]:=aeh (by rw[hs.size,h0,aen]);refine stay (w':=B.w) (cap:=c) (λ_ _ _=>rfl) rfl (dY.refl _) (λL=> ?_) (by rw[h0];exact hp) ?_
  ·intro _;refine⟨by show List.length (List.take n l0++m)<dU;rw[xZ];exact b62,b2,?_⟩;rcases b3 with⟨g1,g2⟩|⟨b,cs,T',fz,g1,g2,g3,g4,g5⟩
   ·exact .inl ⟨g1,by show List.length (List.take n l0++m)=0;rw[xZ];omega⟩
   ·refine .inr ⟨b,cs,T',fz,g1,g2,g3,?_,?_⟩
    ·show List.length (List.take n l0++m)*e.cells<=_;rw[xZ,h0];exact aem (ae4 _ hn) g4
    ·exact bQ.app (bQ.take n (bQ.mono (bI.mono L.k e) l0 _ _ g5)) (by rw[hm];trivial)
  ·rw[h0];rw[h0,X2] at src;exact run_append_nothing B.w t u ty ε i (bp ht).1 hi ad n c hnc q src
 by_cases Cq:n+List.length m<=c
 ·
  obtain⟨hb,K8⟩:=hp;cases WO:B.b j with
  |none=>
   rw[WO] at K8;obtain⟨_,a,e0⟩:=K8;cases e0;omega
  |some x=>
   obtain⟨b,s⟩:=x;rw[WO] at K8;rcases K8 with⟨c',e0,q1,q2⟩|⟨_,a,e0⟩;rotate_left
   ·cases e0;omega
   cases e0;rcases b3 with⟨g1,_⟩|⟨b',cs,T',fz,g1,g2,g3,g4,g5⟩
   ·rw[WO] at g1;cases g1
   ·rw[WO] at g1;cases g1;have hw:=g3 (show 1≠0 by decide);have hle:(n+List.length m)*e.cells<=c*e.cells:=ae4 _ Cq;have hmz:(n+List.length m)*e.cells=n*e.cells+List.length m*e.cells:=aei _ _ _;rw[aen,adI] at q2;obtain⟨cs',_,W⟩:=wrote (P:=T.P) (q:=n*e.cells) (vs:=news) g2 hw (by rw[hs.size];omega) hs.one;have wb:=run_append_room_src (w:=B.w) (ty:=ty) t u ε i (bp ht).1 hi b (0*e.cells) n c q (List.length m) news src Cq (λk hk=>by
     rw[H7,qu g2,adX (by rw[hs.size] at hk;omega)];rfl) (λk hk=>by
     rw[H7];simp only[World.frozen?,g2,ae6,adj];rw[hs.size] at hk;rcases hw with hw|hw<;>omega)
    rw[H7,aen,adI] at wb;refine stay (w':=B.w.setCells b (n*e.cells) news) (cap:=c) (λb' _ hb'=>W.ne b' λe0=>hb' cs.size (by rw[e0];exact WO)) W.hz W.io (λL=> ?_) ?_ (by rw[aen];exact wb)
    ·rw[WO] at L⊢;intro _;refine⟨by show List.length (List.take n l0++m)<dU;rw[xZ];exact b62,b2, .inr ⟨b,cs',T',fz,by rw[W.size],W.Y7,λ_=> ?_,?_,?_⟩⟩
     ·rcases hw with hw|hw
      ·exact .inl hw
      ·exact .inr (by rw[W.size];exact hw)
     ·show List.length (List.take n l0++m)*e.cells<=_;rw[xZ,W.size];omega
     ·refine bQ.mono (bI.mono L.k e) _ _ _ (bQ.app ?_ ?_)
      ·refine bQ.dP (λx _ _ _ _=>bI.dP e x) _ (λk hk=> ?_) (bQ.take n g5);rw[qf] at hk;rw[adI,W.cell,adi]
      ·rw[qf,adI];refine bQ.dP (λx _ _ _ _=>bI.dP e x) _ (λk hk=> ?_) hr;rw[W.cell,adp (by rw[hs.size];omega),ae1,adI]
    ·rw[WO,aen];exact⟨b62, .inl ⟨c,by rw[aen],Cq,by rw[aen,adI];exact q2⟩⟩
 ·
  have olds:∃olds,Seq T.P e.cells (.slice ad n c) n olds B.w/\bQ (bI B.F B.w e) e.cells (List.take n l0) (cl olds) 0:=by
   have none:n=0->∃olds,Seq T.P e.cells (.slice ad n c) n olds B.w/\bQ (bI B.F B.w e) e.cells (List.take n l0) (cl olds) 0:=λe0=>by
    subst e0;exact⟨[],Seq.nil,by rw[List.take_zero];trivial⟩
   obtain⟨_,K8⟩:=hp;rcases b3 with⟨g1,g2⟩|⟨b,cs,T',fz,g1,g2,g3,g4,g5⟩
   ·exact none ade
   ·rw[g1] at K8;rcases K8 with⟨c',e0,q1,q2⟩|⟨e0,_⟩
    ·cases e0;have hle:n*e.cells<=List.length l0*e.cells:=ae4 _ hn;have g6:=bQ.take n g5;have hz:0*e.cells+n*e.cells<=cs.size:=ade;refine⟨_,Seq.Hs g2 hz (λk hk=> ?_),?_⟩
     ·have:=lS (fh e) _ _ _ g6 k (by rw[qf];exact hk);rw[aen];exact this
     ·rw[gT];refine bQ.dP (λx _ _ _ _=>bI.dP e x) _ (λk hk=> ?_) g6;rw[qf] at hk;rw[adI,qt hz hk,aen,adI]
    ·exact none e0
  obtain⟨olds,so,ro⟩:=olds;have Mk:=BR (T:=T) (X:=X) (B:=B) (t:=t) (u:=u) (ty:=ty) (ε:=ε) (e:=e) (L0:=List.take n l0) (m:=m) (q:=q) (news:=news) (ad:=ad) (n:=n) (c:=c) ht hk a84 hs hr hc qf hnc Cq h0 so ro;obtain⟨r,pp,w',m1,m2,m3,m4,m5,m6,m7⟩:=Mk;obtain⟨L,I'⟩:=I.mv kY (tb:= .row e (List.take n l0++m:List e.T)) (p:=pp) (w':=w') (λb hb _=>m2 b hb) m3 m4 (λb s h=> .inl (m5 b s h)) (λL=>m6 _ 1 rfl trivial L);refine⟨_,r,L,I',rfl,m7 _ _ ?_ ?_ (CQ I.len),m1⟩
  ·rw[CR];exact show 1≠7 by decide
  ·rw[CR];exact cu _
theorem vw {ρ:Type} {n:Nat} {x:R ρ} {y:ρ} (h:bj n x=some y):n<=1073741824/\x=some y:=by
 rw[dZ] at h;split at h
 ·rename_i h1;exact⟨h1,h⟩
 ·cases h
theorem iN {e e':Ty} {l':(Ty.sl e').T} {l:(Ty.sl e).T} (h:dy (.sl e') (.sl e) l'=some l):∃h:e'=e,h▸l'=l:=by
 obtain⟨e1,e2⟩:=e_ h;cases e1;exact⟨rfl,e2⟩
section
variable {T:CT} {X:Fx} {B:Bs} {s s':TS}
theorem FA (I:bw X B) (hH:s.hp=B.H) {t u ty:TypeId} {a b tv:TV} {p q:Value} (h:ov T s t u a b dA=some (tv,s')) (ha:Rv B a p) (hb:Rv B b q):
 ∃B' r,s'=⟨s.fr,B'.H⟩/\bo B B'/\bw X B'/\Rv B' tv r/\(Builtin.append_ #[t,u] ty #[p,q]).run T.P B.w= .ok r B'.w:=by
 unfold ov at h;rw[hH] at h;split at h;rotate_left
 ·cases h
 rename_i ε e hs ht;obtain⟨hc,h2⟩:=aQ h;clear h;rw[adr] at hc;obtain⟨nZ,lh⟩:=hc;have yI:=nZ;unfold yt at nZ;simp only[adr] at nZ;have he:1<=e.cells:=by
  have h1:=adv nZ.1.2.1;have h2:=adu nZ.2.1;omega
 split at h2;rotate_left
 ·cases h2
 rename_i m hm;split at h2;rotate_left
 ·cases h2
 rename_i H1 hf;obtain⟨L1,I1,F1,fz⟩:=fF I hf;have hm':toSeq B.H b e=some m:=hm;have live:i9 B.H ⟨B.F0,H1,B.bs,B.w⟩ (ids b):=λj hj=>⟨by have:=fz j hj;show(nth .bu H1 j).st<=2;omega,F1.b j⟩
 obtain⟨news,s1,s2⟩:=xy (P:=T.P) (G:=(⟨B.F0,H1,B.bs,B.w⟩:Bs).F) (λb hb=>hb) hm' I1 he nZ.2.2 live (λj hj c z hc=>gV I1 (fz j hj) hc) (hb.mono L1);have core:∀{j n:Nat} {l0:(Ty.sl e).T},nth .bu H1 j=⟨1, .row e l0⟩->n<=List.length l0->fH (B.b j) e.cells 0 n p->
  bj (aJ (gM (e:=e) (av (e:=e) n l0)) (gM (e:=e) m)) (dA (.r H1.length) (TS.new ⟨s.fr,jo H1 j⟩ (.row e (aw (e:=e) (av (e:=e) n l0) m))))=some (tv,s')->∃B' r,s'=⟨s.fr,B'.H⟩/\bo B B'/\bw X B'/\Rv B' tv r/\(Builtin.append_ #[t,u] ty #[p,q]).run T.P B.w= .ok r B'.w:=by
  intro j n l0 hE hn hr hk;obtain⟨c1,c2⟩:=vw hk;have qf:gM (e:=e) (av (e:=e) n l0)=n:=by
   show List.length (List.take n l0)=n;rw[adY];omega
  rw[qf] at c1;obtain⟨B2,v,k1,k2,k3,k4,k5⟩:=Ks (T:=T) I1 (t:=t) (u:=u) (ty:=ty) (ε:=ε) (j:=j) (n:=n) (l0:=l0) (m:=m) (p:=p) (q:=q) hE hn hr (jJ hs) (yP lh) yI s1 s2 c1;cases c2;refine⟨B2,v,?_,L1.trans k1,k2,k4,k5⟩;rw[k3];rfl
 split at h2
 ·rename_i j;split at h2;rotate_left
  ·cases h2
  rename_i e' l' hE;split at h2;rotate_left
  ·cases h2
  rename_i l hl;obtain⟨e1,e2⟩:=iN hl;subst e1;subst e2;obtain⟨_,hr⟩:=rvR (ha.mono L1);rw[show((⟨B.F0,H1,B.bs,B.w⟩:Bs).e j).b= .row e' l' by show(nth .bu H1 j).b=_;rw[hE]] at hr;refine core hE (adw _) hr ?_;have e3:av (e:=e') (List.length l') l'=l':=List.take_length;rw[e3];exact h2
 ·rename_i j n;split at h2;rotate_left
  ·cases h2
  rename_i e' l' hE;split at h2;rotate_left
  ·cases h2
  rename_i l hl;obtain⟨e1,e2⟩:=iN hl;subst e1;subst e2;obtain⟨_,hr⟩:=a37 (ha.mono L1);rw[show((⟨B.F0,H1,B.bs,B.w⟩:Bs).e j).b= .row e' l' by show(nth .bu H1 j).b=_;rw[hE]] at hr;exact core hE hr.1 hr.2 h2
 ·rename_i e' l';split at h2;rotate_left
  ·cases h2
  rename_i l hl;obtain⟨e1,e2⟩:=iN hl;subst e1;subst e2;rw[e9] at h2;split at h2
  ·cases h2
  rename_i h0;obtain⟨c1,c2⟩:=vw h2;cases c2;obtain⟨⟨pp,n,rfl⟩,Rz⟩:=(d7 rfl rfl (ha.mono L1)).2;have hv:Rv (⟨B.F0,H1,B.bs,B.w⟩:Bs) (.v (.sl e') l') (.slice pp n n):=dG rfl rfl rfl rfl Rz;obtain⟨olds,o1,o2⟩:=xy (P:=T.P) (H:=H1) (G:=(⟨B.F0,H1,B.bs,B.w⟩:Bs).F) (λb hb=>hb) (a:= .v (.sl e') l') (e:=e') (l:=l') (by show or' (dy (.sl e') (.sl e') l') _=_;rw[vx];rfl) I1 he nZ.2.2 (λj hj=>by cases hj) (λj hj=>by cases hj) hv;have hn:(.ok n B.w:Result Nat)= .ok (List.length l') B.w:=o1.len B.w;have hn:List.length l'=n:=by injection hn with hn;exact hn.symm
  subst hn;have Mk:=BR (T:=T) (X:=X) (B:=(⟨B.F0,H1,B.bs,B.w⟩:Bs)) (t:=t) (u:=u) (ty:=ty) (ε:=ε) (e:=e') (L0:=l') (m:=m) (q:=q) (news:=news) (ad:=pp) (n:=List.length l') (c:=List.length l') (jJ hs) (yP lh) yI s1 s2 c1 rfl (adw _) (by have h0:¬List.length m=0:=h0;omega) h0 o1 o2;obtain⟨r,px,w',m1,m2,m3,m4,m5,m6,m7⟩:=Mk;obtain⟨L,I'⟩:=I1.add (tb:= .row e' (l'++m:List e'.T)) (p:=px) (w':=w') m2 m3 m4 m5 (λL=>m6 _ 1 rfl trivial L);refine⟨_,r,rfl,L1.trans L,I',m7 _ _ ?_ ?_ (r_ I1.len),m1⟩
  ·rw[mU];exact show 1≠7 by decide
  ·rw[mU];exact cu _
 ·cases h2
 ·cases h2
theorem ni {F F':Nat->Prop} {w w':World}:∀(t:Ty),t.flat=true->∀(x:t.T) (c:Nat->Value) (o:Nat),bI F w t x c o->bI F' w' t x c o
 | .i _,_,_,_,_,h| .u _,_,_,_,_,h| .b,_,_,_,_,h| .s,_,_,_,_,h| .un,_,_,_,_,h=>h
 | .pr a b,hf,x,c,o,⟨h1,h2⟩=>by
   have hf:(a.flat&&b.flat)=true:=hf;rw[adr] at hf;exact⟨ni a hf.1 _ _ _ h1,ni b hf.2 _ _ _ h2⟩
 | .ar n e,hf,l,c,o,⟨h1,h2⟩=>⟨h1,bQ.mono (ni e hf) l _ _ h2⟩
 | .sl _,hf,_,_,_,_| .gv,hf,_,_,_,_=>by cases hf
theorem xb {P:Program} {dT e ty:TypeId} {i:TypeInfo} (hu:bU P dT=some (.slice e)) (hi:P.info? e=some i) {w:World} {base:Option Addr} {n c:Nat} {x:Value} {m:Nat} {news:List Value}
 (hs:Seq P i.size x m news w) {w':World} (kY:∀a,base=some a->(storeCells a (news.take (Nat.min m n*i.size))).run P w= .ok () w') (hn:base=none->w'=w) {ts:Array TypeId} (h0:ts[0]? =some dT):
 (Builtin.copy_ ts ty #[.slice base n c,x]).run P w= .ok (goInt (Nat.min m n:Nat)) w':=by
 have hc:=hs.cells w rfl (Nat.min m n) (Nat.min_le_left _ _);cases base with
 |none=>
  have hn:=hn rfl;subst hn;simp[Builtin.copy_,h0,run_underlying (bp hu).1,hs.len,sizeOf,typeInfo,hi,hc]
 |some a=>simp[Builtin.copy_,h0,run_underlying (bp hu).1,hs.len,sizeOf,typeInfo,hi,hc,kY a rfl]
theorem xE {P:Program} (I:bw X B) {j o n k:Nat} {e:Ty} {l m:(Ty.sl e).T} {p:Value} {news:List Value} (hE:B.e j=⟨1, .row e l⟩) (hn:o+n<=List.length l) (hkn:k<=n) (Jd:¬k=0) (hm:List.length m=k) (hp:fH (B.b j) e.cells o n p)
 (hs:news.length=k*e.cells) (h1:∀u∈news,u.oneCell'=true) (hr:bQ (bI B.F B.w e) e.cells m (cl news) 0):
 ∃B2 b c,p= .slice (some ⟨b,o*e.cells,none⟩) n c/\bo B B2/\bw X B2/\B2.H=setAt ⟨1, .row e (List.take o l++(m++List.drop (o+k) l):List e.T)⟩ B.H j/\(storeCells ⟨b,o*e.cells,none⟩ news).run P B.w= .ok () B2.w:=by
 have kY:(B.e j).st=1:=by rw[hE]
 have hB:=I.bP j;rw[hE] at hB;obtain⟨b1,b2,b3⟩:=hB (show 1<=2 by decide);have lo:List.length (List.take o l)=o:=by rw[adY];omega
 have hlen:List.length (List.take o l++(m++List.drop (o+k) l))=List.length l:=by
  rw[ado,ado,lo,hm,ael];omega
 have hZ:(B.e j).b.hZ (.row e (List.take o l++(m++List.drop (o+k) l):List e.T)):=by rw[hE];exact⟨rfl,hlen.symm⟩
 obtain⟨_,K8⟩:=hp;rcases b3 with⟨g1,g2⟩|⟨b,cs,T',fz,g1,g2,g3,g4,g5⟩
 ·omega
 ·rw[g1] at K8;rcases K8 with⟨c',e0,q1,q2⟩|⟨e0,_⟩;rotate_left
  ·omega
  cases e0;have hw:=g3 (show 1≠0 by decide);have z1:o*e.cells+k*e.cells<=List.length l*e.cells:=by rw[<-aei];exact ae4 _ ade
  obtain⟨cs',r1,W⟩:=wrote (P:=P) (q:=o*e.cells) (vs:=news) g2 hw (by rw[hs];omega) h1;obtain⟨L,I'⟩:=I.put kY (e:=⟨1, .row e (List.take o l++(m++List.drop (o+k) l):List e.T)⟩) (w':=B.w.setCells b (o*e.cells) news) (λb' hb'=>W.ne b' λe0=>hb' cs.size (by rw[e0];exact g1)) W.hz W.io ⟨show 1≠7 by decide,hZ⟩ λL _=>by
   rw[g1];intro _;refine⟨by show List.length (List.take o l++(m++List.drop (o+k) l))<dU;rw[hlen];exact b1,b2, .inr ⟨b,cs',T',fz,by rw[W.size],W.Y7,λ_=> ?_,?_,?_⟩⟩
   ·rcases hw with hw|hw
    ·exact .inl hw
    ·exact .inr (by rw[W.size];exact hw)
   ·show List.length (List.take o l++(m++List.drop (o+k) l))*e.cells<=_;rw[hlen,W.size];exact g4
   ·refine bQ.app ?_ (bQ.app ?_ ?_)
    ·refine bQ.dP (λx _ _ _ _=>bI.dP e x) _ (λi hi=> ?_) (bQ.take o (bQ.mono (bI.mono L.k e) l _ _ g5));rw[lo] at hi;rw[adI,W.cell,adi]
    ·rw[lo,adI];refine bQ.dP (λx _ _ _ _=>bI.dP e x) _ (λi hi=> ?_) (bQ.mono (bI.mono L.k e) _ _ _ hr);rw[hm] at hi;rw[W.cell,adp (by rw[hs];omega),ae1,adI]
    ·rw[lo,hm,adI,<-aei];have h5:=bQ.drop (o+k) (bQ.mono (bI.mono L.k e) l _ _ g5);rw[adI] at h5;refine bQ.dP (λx _ _ _ _=>bI.dP e x) _ (λi hi=> ?_) h5;rw[W.cell,adq (by rw[hs,aei];omega)]
  exact⟨_,b,c',rfl,L,I',rfl,r1⟩
theorem yx (I:bw X B) {t ty ε:TypeId} {j o n:Nat} {e:Ty} (oO:e.flat=true) {l m:(Ty.sl e).T} {p q:Value} {news:List Value} (hE:B.e j=⟨1, .row e l⟩) (hn:o+n<=List.length l) (hp:fH (B.b j) e.cells o n p)
 (ht:bU T.P t=some (.slice ε)) (h1:1<=cg T.P ε) (hz:cg T.P ε=e.cells) (hs:Seq T.P e.cells q (List.length m) news B.w) (hr:bQ (bI (λ_=>False) B.w e) e.cells m (cl news) 0) {ts:Array TypeId} (h0:ts[0]? =some t):
 ∃B2,bo B B2/\bw X B2/\B2.H=setAt ⟨1, .row e (List.take o l++(List.take (min n (List.length m)) m++List.drop (o+min n (List.length m)) l):List e.T)⟩ B.H j/\(Builtin.copy_ ts ty #[p,q]).run T.P B.w= .ok (goInt (min n (List.length m):Nat)) B2.w:=by
 obtain⟨i,hi,H7⟩:=j9 h1 hz;have kY:(B.e j).st=1:=by rw[hE]
 have hB:=I.bP j;rw[hE] at hB;obtain⟨b1,b2,b3⟩:=hB (show 1<=2 by decide);have Aw:Nat.min (List.length m) n=min n (List.length m):=Nat.min_comm _ _;have hkn:min n (List.length m)<=n:=Nat.min_le_left _ _;have hkm:min n (List.length m)<=List.length m:=Nat.min_le_right _ _;obtain⟨_,ad,c,rfl,hnc⟩:=r8 hp (ae5 0) (ae5 n);generalize hk:min n (List.length m)=k at*;have lo:List.length (List.take o l)=o:=by rw[adY];omega
 have lk:List.length (List.take k m)=k:=by rw[adY];omega
 have hlen:List.length (List.take o l++(List.take k m++List.drop (o+k) l))=List.length l:=by
  rw[ado,ado,lo,lk,ael];omega
 have hZ:(B.e j).b.hZ (.row e (List.take o l++(List.take k m++List.drop (o+k) l):List e.T)):=by rw[hE];exact⟨rfl,hlen.symm⟩
 by_cases k0:k=0
 ·subst k0;have same:(List.take o l++(List.take 0 m++List.drop (o+0) l):List e.T)=l:=by rw[List.take_zero,List.nil_append,ae9,List.take_append_drop]
  obtain⟨L,I'⟩:=I.put kY (e:=⟨1, .row e (List.take o l++(List.take 0 m++List.drop (o+0) l):List e.T)⟩) (w':=B.w) (λ_ _=>rfl) rfl (dY.refl _) ⟨show 1≠7 by decide,hZ⟩ λL _=>by
   have:=lg.mono L (λ_ _ _=>rfl) (I.bP j);rw[hE] at this;rw[show(⟨1, .row e (List.take o l++(List.take 0 m++List.drop (o+0) l):List e.T)⟩:TE)=⟨1, .row e l⟩ from congrArg (λl=>(⟨1, .row e l⟩:TE)) same] at this⊢;exact this
  refine⟨_,L,I',rfl,?_⟩;have:=xb (P:=T.P) (ty:=ty) (ts:=ts) (w:=B.w) (w':=B.w) (base:=ad) (n:=n) (c:=c) ht hi (by rw[H7];exact hs) (λa _=>by rw[Aw,aen,List.take_zero];rfl) (λ_=>rfl) h0;rw[Aw] at this;exact this
 ·obtain⟨K7,K8⟩:=hp
  ·have hkz:k*e.cells<=List.length m*e.cells:=ae4 _ hkm;have Jf:(news.take (k*e.cells)).length=k*e.cells:=by rw[adY,hs.size,Nat.min_eq_left hkz]
   obtain⟨B2,b',c',e1,L,I',eH,r1⟩:=xE (P:=T.P) I (m:=List.take k m) (news:=news.take (k*e.cells)) hE hn hkn k0 lk ⟨K7,K8⟩ Jf (λu hu=>hs.one u (List.mem_of_mem_take hu)) (by
    refine bQ.dP (λx _ _ _ _=>bI.dP e x) _ (λi hi=> ?_) (bQ.mono (ni e oO) _ _ _ (bQ.take k hr));rw[lk] at hi;unfold cl;rw[adG,List.getElem?_take,adh,adG])
   cases e1;refine⟨B2,L,I',eH,?_⟩;have:=xb (P:=T.P) (ty:=ty) (ts:=ts) (w:=B.w) (w':=B2.w) (base:=some ⟨b',o*e.cells,none⟩) (n:=n) (c:=c) ht hi (by rw[H7];exact hs) (λa ea=>by cases ea;rw[Aw,H7];exact r1) (λe=>by cases e) h0;rw[Aw] at this;exact this
theorem Pk (I:bw X B) (hH:s.hp=B.H) {t ty:TypeId} {a b tv:TV} {p q:Value} (h:zK T s t a b dA=some (tv,s')) (ha:Rv B a p) (hb:Rv B b q) {ts:Array TypeId} (h0:ts[0]? =some t):
 ∃B' r,s'=⟨s.fr,B'.H⟩/\bo B B'/\bw X B'/\Rv B' tv r/\(Builtin.copy_ ts ty #[p,q]).run T.P B.w= .ok r B'.w:=by
 unfold zK at h;rw[hH] at h;split at h;rotate_left
 ·cases h
 rename_i ε e hs ht;obtain⟨hc,h2⟩:=aQ h;clear h;simp only[adr] at hc;obtain⟨⟨⟨c1,c2⟩,c3⟩,c4⟩:=hc;have c1:=adv c1;have c2:=adu c2;have he:1<=e.cells:=by rw[<-c2];exact c1
 split at h2;rotate_left
 ·cases h2
 rename_i m hm;have live:i9 B.H B (ids b):=by
  have hm:=hm;unfold toSeq at hm;split at hm
  ·exactλj hj=>by cases hj
  ·exact i9.refl (du (.sl e) b hm).live
 obtain⟨news,s1,s2⟩:=xy (P:=T.P) (G:=λ_=>False) (λb hb=>hb.elim) hm I he c4 live (λ_ _ _ _ _ h=>h) hb;have big:∀{n:Nat},n<dU->n<=9223372036854775807:=λh=>by unfold dU at h;omega
 split at h2
 ·rename_i j;split at h2;rotate_left
  ·cases h2
  rename_i e' l' hE;split at h2;rotate_left
  ·cases h2
  rename_i l hl;obtain⟨e1,e2⟩:=iN hl;subst e1;subst e2;have hE:B.e j=⟨1, .row e' l'⟩:=by show nth .bu B.H j=_;rw[<-hH];exact hE
  obtain⟨_,hr⟩:=rvR ha;rw[hE] at hr;have hr:fH (B.b j) e'.cells 0 (List.length l') p:=hr;obtain⟨B2,k1,k2,k3,k4⟩:=yx (T:=T) I (t:=t) (ty:=ty) (o:=0) c3 hE ade hr (jJ hs) c1 c2 s1 s2 h0;cases h2;refine⟨B2,_,?_,k1,k2,?_,k4⟩
  ·rw[k3,<-hH];show(⟨s.fr,setAt _ s.hp j⟩:TS)=_;rw[List.take_zero,List.nil_append,adI];rfl
  ·exact AH (aem (Nat.min_le_left _ _) (big hr.1))
 ·rename_i j o n;split at h2;rotate_left
  ·cases h2
  rename_i e' l' hE;split at h2;rotate_left
  ·cases h2
  rename_i l hl;obtain⟨e1,e2⟩:=iN hl;subst e1;subst e2;have hE:B.e j=⟨1, .row e' l'⟩:=by show nth .bu B.H j=_;rw[<-hH];exact hE
  obtain⟨_,hr⟩:=XK ha;rw[hE] at hr;obtain⟨hn,hr⟩:o+n<=List.length l'/\fH (B.b j) e'.cells o n p:=hr;obtain⟨B2,k1,k2,k3,k4⟩:=yx (T:=T) I (t:=t) (ty:=ty) (o:=o) c3 hE hn hr (jJ hs) c1 c2 s1 s2 h0;cases h2;refine⟨B2,_,?_,k1,k2,?_,k4⟩
  ·rw[k3,<-hH];rfl
  ·exact AH (aem (Nat.min_le_left _ _) (big hr.1))
 ·rename_i j w n;split at h2;rotate_left
  ·cases h2
  rename_i ty' c hE;split at h2;rotate_left
  ·cases h2
  rename_i n' e' n2 e2 l' htw eR;obtain⟨hc,h3⟩:=aQ h2;clear h2;simp only[adr] at hc;obtain⟨hw,nZ,lh,Rt⟩:=hc;have e1:e'=e:=aed nZ;have e2':n'=n:=adu lh;have aco:=adv Rt;subst e1;subst e2';split at h3;rotate_left
  ·cases h3
  rename_i l hl;obtain⟨e3,e4⟩:=e_ hl;cases e3;cases e4;split at h3;rotate_left
  ·cases h3
  rename_i c' a0s;have hE:B.e j=⟨1, .box ty' c⟩:=by show nth .bu B.H j=_;rw[<-hH];exact hE
  have kY:(B.e j).st=1:=by rw[hE]
  obtain⟨_,b',sz,q',g1,gq,rfl⟩:=a9p ha;rw[hE] at gq;have gq:(if ty'=cO then none else ty'.off w)=some q':=gq;split at gq
  ·cases gq
  rename_i Je;have H:=I.bP j;rw[hE,g1] at H;obtain⟨b1,⟨_,b'',cs0,T0,fz0,m1,m2,m3,m4,m0,m5⟩|⟨hm',_⟩⟩:=H (show 1<=2 by decide);rotate_left
  ·exact absurd hm' Je
  cases m1;obtain⟨u,k1,k2,k3,k4⟩:=q_ (B:=B) w ty' c b1 gq;have ku:Ty.ar n' e'=u:=Option.some.inj (htw.symm.trans k1);subst ku;have hr:Rp B (ij w c) (fw cs0) (0+q'):=k4 _ _ m5;rw[eR,adI] at hr;obtain⟨RI,K9⟩:List.length l'=n'/\bQ (bI B.F B.w e') e'.cells l' (fw cs0) q':=hr;have k3:q'+n'*e'.cells<=ty'.cells:=k3;generalize hk:min n' (List.length m)=k at*;have hkd:di (jH n') (gM (e:=e') m)=k:=hk;rw[hkd] at h3 a0s;have hkn:k<=n':=ade;have hkm:k<=List.length m:=ade;obtain⟨i,hi,H7⟩:=j9 c1 c2;have hkz:k*e'.cells<=List.length m*e'.cells:=ae4 _ hkm;have ach:k*e'.cells<=n'*e'.cells:=ae4 _ hkn;have Jf:(news.take (k*e'.cells)).length=k*e'.cells:=by rw[adY,s1.size,Nat.min_eq_left hkz]
  have lk:List.length (List.take k m)=k:=by rw[adY];omega
  have hw3:=m3 (show 1≠0 by decide);obtain⟨cs',r1,W⟩:=wrote (P:=T.P) (q:=q') (vs:=news.take (k*e'.cells)) m2 hw3 (by rw[Jf];omega) (λu hu=>s1.one u (List.mem_of_mem_take hu));obtain⟨q1,q2,q3,q4⟩:=iU I (H0:=B.H) w ty' c (λe=>by rw[hw] at e;cases e) b1 htw gq (dk _ _) a0s;obtain⟨L,I'⟩:=I.put kY (e:=⟨1, .box ty' c'⟩) (w':=B.w.setCells b' q' (news.take (k*e'.cells))) (λb hb=>W.ne b λe0=>hb cs0.size (by rw[e0];exact g1)) W.hz W.io ⟨show 1≠7 by decide,by rw[hE];rfl⟩ λL _=>by
   rw[g1];intro _;refine⟨q1, .inl ⟨Je,?_⟩⟩;refine⟨b',cs',T0,fz0,by rw[W.size],W.Y7,λ_=>by rcases hw3 with hw|hw;(·exact .inl hw);exact .inr (by rw[W.size];exact hw),by rw[W.size];exact m4,W.one m0,?_⟩;refine Rp.mono L _ _ _ (q4 (fw cs0) (fw cs') 0 m5 (λi hi hi'=> ?_) ?_)
   ·have hi':i<q'\/q'+n'*e'.cells<=i:=hi';rw[adI,W.cell,adq (by rw[Jf];omega)]
   ·rw[adI];refine⟨?_,?_⟩
    ·show List.length (List.take k m++List.drop k l')=n';rw[ado,lk,ael,RI];omega
    ·show bQ (bI B.F B.w e') e'.cells (List.take k m++List.drop k l':List e'.T) (fw cs') q';refine bQ.app ?_ ?_
     ·refine bQ.dP (λx _ _ _ _=>bI.dP e' x) _ (λi hi=> ?_) (bQ.mono (ni e' c3) _ _ _ (bQ.take k s2));rw[lk] at hi;rw[W.cell,adp (by rw[Jf];omega),ae1,adI];unfold cl;rw[adG,List.getElem?_take,adh,adG]
     ·rw[lk];refine bQ.dP (λx _ _ _ _=>bI.dP e' x) _ (λi hi=> ?_) (bQ.drop k K9);rw[W.cell,adq (by rw[Jf];omega)]
  cases h3;refine⟨_,goInt (k:Nat),?_,L,I',AH ade,?_⟩
  ·show(⟨s.fr,setAt _ s.hp j⟩:TS)=_;rw[hH];rfl
  ·have Aw:Nat.min (List.length m) n'=k:=by rw[<-hk];exact Nat.min_comm _ _
   have:=xb (P:=T.P) (ty:=ty) (ts:=ts) (w:=B.w) (w':=B.w.setCells b' q' (news.take (k*e'.cells))) (base:=some ⟨b',q',none⟩) (n:=n') (c:=n') (jJ hs) hi (by rw[H7];exact s1) (λa ea=>by cases ea;rw[Aw,H7];exact r1) (λe=>by cases e) h0;rw[Aw] at this;exact this
 ·cases h2
theorem JR (I:bw X B) (hH:s.hp=B.H) {t ty:TypeId} {a tv:TV} {p:Value} (h:ta T s t a dA=some (tv,s')) (ha:Rv B a p) {ts:Array TypeId} (h0:ts[0]? =some t):
 ∃B' r,s'=⟨s.fr,B'.H⟩/\bo B B'/\bw X B'/\Rv B' tv r/\(Builtin.clear_ ts ty #[p]).run T.P B.w= .ok r B'.w:=by
 unfold ta at h;split at h;rotate_left
 ·cases h
 rename_i ε e hs ht
 replace h:=aQ h;obtain⟨hc,h⟩:=h
 simp only[adr] at hc;obtain⟨c1,c2,c3,c4⟩:=hc;have c1:=adv c1;have c2:=adu c2;have he:1<=e.cells:=by rw[<-c2];exact c1
 obtain⟨i,v,Z⟩:=gd c4 c3;split at h;rotate_left
 ·cases h
 rename_i j o n;split at h;rotate_left
 ·cases h
 rename_i e' l' hE;split at h;rotate_left
 ·cases h
 rename_i l hl;obtain⟨e1,e2⟩:=iN hl;subst e1;subst e2;cases h;have hE:nth .bu s.hp j=⟨1, .row e' l'⟩:=hE;rw[hH] at hE;obtain⟨_,hr⟩:=XK ha;rw[show(B.e j).b= .row e' l' by show(nth .bu B.H j).b=_;rw[hE]] at hr;obtain⟨RI,K9⟩:=hr;have hU:=(bp (jJ hs)).1
 by_cases n0:n=0
 ·subst n0;obtain⟨_,ad,c,rfl,_⟩:=r8 K9 (ae5 0) (ae5 0);have same:aw (e:=e') (av (e:=e') o l') (aw (e:=e') (bd (e:=e') 0 e'.zero) (aH (e:=e') (aJ o 0) l'))=l':=by
   show List.take o l'++([]++List.drop (o+0) l')=l';rw[List.nil_append,ae9,List.take_append_drop]
  refine⟨B, .tuple #[],?_,bo.refl B,I,trivial,?_⟩
  ·rw[same];show(⟨s.fr,setAt ⟨1, .row e' l'⟩ s.hp j⟩:TS)=_;rw[pW (d:= .bu) (by rw[hH];exact hE),hH]
  ·cases ad<;>simp[Builtin.clear_,h0,run_underlying hU]
 ·have hzc:Builtin.zeroCells v.cells n=(Array.range (n*e'.cells)).map (v.cells[·%v.cells.size]!):=by
   unfold Builtin.zeroCells;rw[Z.size]
  have hr:=BC Z he (n:=n) (m:=n*e'.cells) (adw _) B.F B.w;have hz:(Builtin.zeroCells v.cells n).toList.length=n*e'.cells:=by rw[Array.length_toList,nS,Z.size]
  rw[<-hzc] at hr;obtain⟨B2,b,c,rfl,L,I',eH,r1⟩:=xE (P:=T.P) I (k:=n) (m:=(List.replicate n e'.zero:List e'.T)) (news:=(Builtin.zeroCells v.cells n).toList) hE RI (adw n) n0 adz K9 hz (λu hu=>by
   obtain⟨q,hq,rfl⟩:=List.getElem_of_mem hu;have:=lS (fh e') _ _ _ hr q (by rw[adz];rw[hz] at hq;exact hq);rw[adI] at this;have e1:(Builtin.zeroCells v.cells n).toList[q]=fw (Builtin.zeroCells v.cells n) q:=by
    unfold fw;rw[adD,adX (by rw[<-Array.length_toList];exact hq),Array.getElem_toList];rfl
   rw[e1];exact this) (by rw[gT];exact hr)
  refine⟨B2, .tuple #[],?_,L,I',trivial,?_⟩
  ·rw[eH,<-hH];rfl
  ·cases n with
   |zero=>exact absurd rfl n0
   |succ n=>simp[Builtin.clear_,h0,run_underlying hU,zeroValue,typeInfo,dm Z.info,Z.z,r1]
end
end
noncomputable section
section
variable {T:CT} {s s':TS} {tv:TV}
theorem rvM {B:Bs} {j:Nat} {a:Value} (h:Rv B (.m j) a):(B.e j).st≠7/\(∃x,(B.e j).b= .box cO x)/\∃b s,B.b j=some (b,s)/\a= .map (some b):=(d7 rfl rfl h).2
theorem mkM {B:Bs} {j b s:Nat} {x:TV} (h1:(B.e j).st≠7) (h2:(B.e j).b= .box cO x) (h3:B.b j=some (b,s)):Rv B (.m j) (.map (some b)):=dG rfl rfl rfl rfl ⟨h1,⟨x,h2⟩,b,s,h3,rfl⟩
theorem yO {t:TypeId} (h:yN T t=true):∃k e,bU T.P t=some (.map k e)/\bU T.P k=some .string/\zeroOf .b (zeroV T.P e)=true:=by
 unfold yN at h;split at h
 ·rename_i k e ht;rw[adr] at h;refine⟨k,e,ht,?_,h.2⟩;have h1:=h.1;split at h1
  ·assumption
  ·cases h1
 ·cases h
theorem Dy {t:TypeId} (h:nL T s t dA=some (tv,s')):∃tb,s'=s.new tb/\tv= .m s.hp.length/\∀B:Bs,lp T.P B (Instr.makeMap t none) (λ_=>True) tb .m:=by
 obtain⟨_,h⟩:=aQ (show(bif yN T t then dA (.m s.hp.length) (s.new (.box cO (.v cO (Sc (a:= .un) (c:= .sl .s) unX (jg .s))))) else none)=some (tv,s') from h);cases h;refine⟨_,rfl,rfl,λB=> ?_⟩;have hr:(Instr.makeMap t none).run T.P B.w= .ok (.map (some B.w.heap.size)) (B.w.alloc (.map #[] 0)):=by simp[Instr.makeMap]
 refine⟨_,some (B.w.heap.size,0),_,hr,λb hb=>HG hb,?_,⟨rfl,rfl⟩,λb s e=>(by cases e;exact adw _),λB' st e _ L=> ?_,λB' j h7 hk hp=> ?_⟩
 ·show B.w.heap.size<=(B.w.heap.push _).size;rw[Array.size_push];omega
 ·intro _;refine⟨rfl, .inr ⟨rfl,[],rfl,B.w.heap.size,#[],0,rfl,?_,λe h=>(by cases h),rfl⟩⟩;rw[e];exact HF
 ·revert hk;cases hb:(B'.e j).b with
  |box t' c=>intro hk;have hk:cO=t':=hk;exact mkM h7 (by rw[hb,hk]) hp
  |_=>exactλk=>k.elim
theorem uN {es:Array MapEntry} {l:List (List Nat)} (hm:Ie es l) (x:ByteArray):(∃e∈es.toList,e.key= .string x)↔bZ x∈l:=by
 obtain⟨h1,h2⟩:=hm;rw[<-h2,List.mem_map];constructor
 ·rintro⟨e,he,hk⟩;exact⟨e,he,by rw[hk];rfl⟩
 ·rintro⟨e,he,hk⟩;obtain⟨s,e1,_⟩:=h1 e he;rw[e1] at hk;have hk:bZ s=bZ x:=hk;exact⟨e,he,by rw[e1,vr hk]⟩
theorem Ie.keys {es:Array MapEntry} {l:List (List Nat)} (hm:Ie es l):∀x∈es.toList,MapKept.IsKey .string x.key:=λx hx=>by
 obtain⟨s,e,_⟩:=hm.1 x hx;rw[e];trivial
theorem NV {X:Fx} {B:Bs} (I:bw X B) {j b sz:Nat} {x:TV} (hs:(B.e j).st<=2) (hb:(B.e j).b= .box cO x) (hp:B.b j=some (b,sz)):∃l es cl,x= .v cO ((),l)/\sz=0/\B.w.heap[b]? =some (.map es cl)/\Ie es l:=by
 have H:=I.bP j;rw[hp] at H;revert H hs hb;generalize B.e j=E;intro hs hb H;obtain⟨st,tb⟩:=E;have hb:tb= .box cO x:=hb;subst hb;rcases(H hs).2 with h|⟨_,l,h1,b',es,cl,h2,h3,h4⟩
 ·exact absurd rfl h.1
 ·cases h2;exact⟨l,es,cl,h1,rfl,h3,h4⟩
theorem Hn {B:Bs} (b:Bool):Rv B (.v .b b) (.bool b):=dG rfl rfl rfl rfl rfl
theorem Bq {t:TypeId} {m k:TV} (h:kN T s t m k gz=some tv):∀j,BI m=some j->(nth .bu s.hp j).st<=2:=by
 intro j hj;unfold kN at h
 replace h:=aQ h
 have h:=h.2;split at h
 ·rename_i j' x;cases hj;split at h
  ·rename_i st τ σ y hE;have:=(aQ h).1;have hE:nth .bu s.hp j=_:=hE;rw[hE];exact adv this
  ·cases h
 ·cases h
theorem FE {X:Fx} {B:Bs} (I:bw X B) {t:TypeId} {m k:TV} {a u:Value} (h:kN T s t m k gz=some tv) (hS:rZ s.hp B m) (ha:Rv B m a) (hu:Rv B k u):∃r,(Instr.lookup t a u false).run T.P B.w= .ok r B.w/\Rv B tv r:=by
 unfold kN at h
 replace h:=aQ h
 obtain⟨hm,h⟩:=h;obtain⟨kt,et,t1,t2,t3⟩:=yO hm;split at h;rotate_left
 ·cases h
 rename_i j x;split at h;rotate_left
 ·cases h
 rename_i st τ σ y hE
 replace h:=aQ h
 obtain⟨kY,h⟩:=h;split at h;rotate_left
 ·cases h
 rename_i y' hy;cases h;obtain⟨c1,c2⟩:=e_ hy;cases c1;cases c2;obtain⟨s1,s2⟩:=hS j rfl;have hE:nth .bu s.hp j=_:=hE;rw[hE] at s2;have s2:(B.e j).b= .box τ (.v cO y):=s2;obtain⟨_,⟨x',hx'⟩,b,sz,hb,rfl⟩:=rvM ha;obtain⟨l,es,cl,h1,_,h3,h4⟩:=NV I s1 hx' hb;rw[hx'] at s2;injection s2 with s2 s3
 rw[h1] at s3;injection s3 with _ s3
 have s3:((),l)=y:=s3;subst s3;obtain⟨str,rfl,rfl,_⟩:=PV hu;have hk:MapKept.IsKey .string (.string str):=trivial;have hck:=λe=>MapKept.run_checkKey (w:=B.w) (bp t2).1 hk e 9999
 obtain⟨i,v,Z⟩:=gd rfl t3;have hz:(zeroValue et).run T.P B.w= .ok v B.w:=by simp[zeroValue,typeInfo,dm Z.info,Z.z]
 have hv:v= .bool false:=by
  have h5:=(Z.rp B);have h6:cv v 0= .bool false:=h5;have h7:=Z.ok;have h7:v.oneCell'=true/\1=1:=h7;cases v<;>first|exact h6|cases h7.1
 rcases MapKept.findNow_spec hk es.toList 0 h4.keys with⟨g1,g2⟩|⟨i',e,g1,g2,g3⟩
 ·refine⟨.bool false,?_,?_⟩
  ·simp[Instr.lookup,run_underlying (bp t1).1,MapKept.run_getObj_map h3,hck,MapKept.run_findKey (bp t2).1 g1,hz,hv]
  ·have:uo (bZ str) l=false:=by
    unfold uo;rw[dM];refine adl λug=> ?_
    obtain⟨e,he,hk'⟩:=(uN h4 str).2 ug;exact g2 e he hk'
   show Rv B (.v .b (uo (bZ str) l)) _;rw[this];exact Hn false
 ·have ug:e∈es.toList:=List.mem_of_getElem? g2;obtain⟨_,_,hev⟩:=h4.1 e ug;refine⟨.bool true,?_,?_⟩
  ·simp[Instr.lookup,run_underlying (bp t1).1,MapKept.run_getObj_map h3,hck,MapKept.run_findKey (bp t2).1 g1,hev]
  ·have:uo (bZ str) l=true:=by
    unfold uo;rw[dM];exact adm ((uN h4 str).1 ⟨e,ug,g3⟩)
   show Rv B (.v .b (uo (bZ str) l)) _;rw[this];exact Hn true
theorem FF {X:Fx} {B:Bs} (I:bw X B) (hH:s.hp=B.H) {t:TypeId} {m k:TV} {a u:Value} (h:kO T s t m k some=some s') (ha:Rv B m a) (hu:Rv B k u):∃B',s'=⟨s.fr,B'.H⟩/\bo B B'/\bw X B'/\(Instr.mapUpdate t a u (.bool true)).run T.P B.w= .ok () B'.w:=by
 unfold kO at h
 replace h:=aQ h
 obtain⟨hm,h⟩:=h;obtain⟨kt,et,t1,t2,t3⟩:=yO hm;split at h;rotate_left
 ·cases h
 rename_i j x;split at h;rotate_left
 ·cases h
 rename_i τ σ y hE;split at h;rotate_left
 ·cases h
 rename_i y' hy;cases h;obtain⟨c1,c2⟩:=e_ hy;cases c1;cases c2;have hE:B.e j=⟨1, .box τ (.v cO y)⟩:=by show nth .bu B.H j=_;rw[<-hH];exact hE
 obtain⟨_,⟨x',hx'⟩,b,sz,hb,rfl⟩:=rvM ha;have kY:(B.e j).st=1:=by rw[hE]
 obtain⟨l,es,cl,h1,h2,h3,h4⟩:=NV I ade hx' hb;rw[hE] at hx';have hx':TB.box τ (.v cO y)= .box cO x':=hx';injection hx' with s2 s3
 subst s2;rw[h1] at s3;injection s3 with _ s3
 have s3:y=((),l):=s3;subst s3;subst h2;obtain⟨str,rfl,rfl,_⟩:=PV hu;have hk:MapKept.IsKey .string (.string str):=trivial;have hck:=λe=>MapKept.run_checkKey (w:=B.w) (bp t2).1 hk e 9999
 have fin:∀(es':Array MapEntry) (cl':Nat) (l':List (List Nat)),Ie es' l'->(Instr.mapUpdate t (.map (some b)) (.string str) (.bool true)).run T.P B.w= .ok () {B.w with heap:=B.w.heap.setIfInBounds b (.map es' cl')}->l'=sS (bZ str) l->∃B',s.put j ⟨1, .box cO (.v cO (Sc (a:= .un) (c:= .sl .s) unX (sS (bZ str) (Fw (a:= .un) (c:= .sl .s) ((),l)))))⟩=⟨s.fr,B'.H⟩/\bo B B'/\bw X B'/\(Instr.mapUpdate t (.map (some b)) (.string str) (.bool true)).run T.P B.w= .ok () B'.w:=by
  intro es' cl' l' hm' hr hl;subst hl;obtain⟨L,I'⟩:=I.put kY (e:=⟨1, .box cO (.v cO ((),sS (bZ str) l))⟩) (w':={B.w with heap:=B.w.heap.setIfInBounds b (.map es' cl')}) (λc hc=>(MapKept.heap_set h3).2 c λe=>hc 0 (by rw[e];exact hb)) (by simp) ⟨rfl,rfl⟩ ⟨show 1≠7 by decide,by rw[hE];rfl⟩ λL _=>by
   rw[hb];intro _;exact⟨rfl, .inr ⟨rfl,_,rfl,b,es',cl',rfl,(MapKept.heap_set h3).1,hm'⟩⟩
  refine⟨_,?_,L,I',hr⟩;show(⟨s.fr,setAt _ s.hp j⟩:TS)=⟨s.fr,setAt _ B.H j⟩;rw[hH];rfl
 rcases MapKept.findNow_spec hk es.toList 0 h4.keys with⟨g1,g2⟩|⟨i',e,g1,g2,g3⟩
 ·refine fin (es.push ⟨.string str, .bool true,cl⟩) (cl+1) (l++[bZ str]) ⟨λe he=> ?_,?_⟩ ?_ ?_
  ·rw[Array.toList_push] at he;rcases adC.1 he with he|he
   ·exact h4.1 e he
   ·rw[adF] at he;rw[he];exact⟨str,rfl,rfl⟩
  ·rw[Array.toList_push,List.map_append,h4.2];rfl
  ·simp[Instr.mapUpdate,run_underlying (bp t1).1,MapKept.run_getObj_map h3,hck,MapKept.run_findKey (bp t2).1 g1,MapKept.run_setObj_map _ h3]
  ·unfold sS;rw[cG,fM,adq λug=> ?_];obtain⟨e,he,hk'⟩:=(uN h4 str).2 ug;exact g2 e he hk'
 ·have ug:e∈es.toList:=List.mem_of_getElem? g2;obtain⟨_,_,hev⟩:=h4.1 e ug;have hj:es[i']? =some e:=by simpa using g2
  refine fin (es.modify i' λe=>{e with key:= .string str,val:= .bool true}) cl l ⟨λe' he=> ?_,?_⟩ ?_ ?_
  ·rw[<-Array.mem_def] at he;obtain⟨q,hq,hq2⟩:=Array.mem_iff_getElem.1 he;rw[Array.getElem_modify] at hq2;split at hq2
   ·rw[<-hq2];exact⟨str,rfl,rfl⟩
   ·rw[<-hq2];exact h4.1 _ (Array.getElem_mem_toList ..)
  ·rw[<-h4.2];refine List.ext_getElem? λq=> ?_
   rw[List.getElem?_map,List.getElem?_map,adU,adU,Array.getElem?_modify]
   by_cases hq:i'=q
   ·rw[adp hq,<-hq,hj];show some (Xb (.string str))=some (Xb e.key);rw[g3]
   ·rw[adq hq]
  ·simp[Instr.mapUpdate,run_underlying (bp t1).1,MapKept.run_getObj_map h3,hck,MapKept.run_findKey (bp t2).1 g1,hj,g3,MapKept.run_keyThatStays hk,MapKept.run_setObj_map _ h3]
  ·unfold sS;rw[cG,fM,adp ((uN h4 str).1 ⟨e,ug,g3⟩)]
end
end
end Go.Proofs.YtbjcjppphoppfaaGreat.T
