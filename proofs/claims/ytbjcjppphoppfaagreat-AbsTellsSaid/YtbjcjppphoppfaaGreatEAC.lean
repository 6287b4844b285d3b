import Derived.Test.YtbjcjppphoppfaaGreatEAB
import GoSem.Dispatch
import Derived.Laws.Strings
import Derived.Laws.StructEq
set_option linter.all false
namespace Go.Proofs.YtbjcjppphoppfaaGreat.T
open Go
noncomputable section
theorem bw.step {X:Fx} {B:Bs} (I:bw X B) (k:Nat) {B':Bs} (h0:B'.F0=B.F0) (hl:B'.bs.length=B'.H.length) (hL:B.H.length<=B'.H.length)
 (ho:∀j,j≠k->(B'.e j=B.e j\/(B'.e j=⟨9,(B.e j).b⟩/\(B.e j).st=1))/\B'.b j=B.b j) (hk:∀x∈X.lk,x.1≠k)
 (hw:∀b,b<B.w.heap.size->(∀s,B'.b k≠some (b,s))->B'.w.heap[b]? =B.w.heap[b]?) (hz:B.w.heap.size<=B'.w.heap.size) (PO:dY B.w B'.w)
 (hb:∀b s,B'.b k=some (b,s)->B.w.heap.size<=b\/∃i,(B.e i).st=1/\B.b i=some (b,s)/\(i=k\/3<=(B'.e i).st))
 (hn:(B.e k).st≠7->(B'.e k).st≠7/\B'.b k=B.b k/\(B.e k).b.hZ (B'.e k).b)
 (h5:bo B B'->(B'.e k).st<=2->lg B' (B'.e k) (B'.b k)):bo B B'/\bw X B':=by
 have Yr:∀j,j≠k->(B'.e j).st<=2->B'.e j=B.e j/\B'.b j=B.b j:=λj e h=>by
  obtain⟨q|⟨q,_⟩,q'⟩:=ho j e
  ·exact⟨q,q'⟩
  ·rw[q] at h;exact absurd h (show¬9<=2 by decide)
 have ow:∀j,B'.own j->j≠k->B.own j/\B'.b j=B.b j:=λj h e=>by
  obtain⟨q2,q3⟩:=Yr j e (jx h);unfold Bs.own at h⊢;rw[q2] at h;exact⟨h,q3⟩
 have at_:∀j b s,(B.e j).st<=2->B.b j=some (b,s)->b<B.w.heap.size:=λj b s h2 h3=>by
  have:=I.bP j;rw[h3] at this;exact this.size h2
 have hF:∀b,B'.F b->B.F b\/B.w.heap.size<=b:=by
  rintro b (h|⟨j,s,h1,h2⟩)
  ·exact .inl (.inl (h0▸h))
  ·by_cases e:j=k
   ·subst e;rcases hb b s h2 with h|⟨i,g1,g2,_⟩
    ·exact .inr h
    ·exact .inl (.inr ⟨i,s, .inl g1,g2⟩)
   ·obtain⟨q2,q3⟩:=ow j h1 e;exact .inl (.inr ⟨j,s,q2,q3▸h2⟩)
 have ne:∀j b s s',j≠k->(B.e j).st<=2->(B'.e j).st<=2->B.b j=some (b,s)->B'.b k≠some (b,s'):=λj b s s' e h2 h2' h3 h4=>by
  rcases hb b s' h4 with h|⟨i,g1,g2,g3⟩
  ·have:=at_ j b s h2 h3;omega
  ·have:=I.inj i j b s' s (.inl g1) h2 g2 h3;subst this;rcases g3 with g3|g3
   ·exact e g3
   ·omega
 have L:bo B B':=by
  refine⟨λb cs T fz g1 g2=>⟨λh=> ?_,fz,?_⟩,λj hj=> ?_⟩
  ·rcases hF b h with h|h
   ·exact g1 h
   ·have:=(ae3.1 g2).1;omega
  ·refine(hw b (ae3.1 g2).1 λs h=> ?_).trans g2;rcases hb b s h with h|⟨i,q1,q2,_⟩
   ·have:=(ae3.1 g2).1;omega
   ·exact g1 (.inr ⟨i,s, .inl q1,q2⟩)
  ·by_cases e:j=k
   ·subst e;exact hn hj
   ·obtain⟨q2|⟨q2,_⟩,q3⟩:=ho j e
    ·rw[q2];exact⟨hj,q3,cu _⟩
    ·rw[q2];exact⟨show 9≠7 by decide,q3,cu _⟩
 refine⟨L,hl,λj=> ?_,λi j b s s' g1 g3 g4 g5=> ?_,λj b s g1 g2=> ?_,λj b s g1 g2 hF=> ?_,λb h=> ?_,aem I.nx hz,I.xo,I.io.trans PO,h0.trans I.F0,λx hx=>(I.DO x hx).mono L,λx hx=> ?_⟩
 ·by_cases hs:(B'.e j).st<=2
  ·by_cases e:j=k
   ·subst e;exact h5 L hs
   ·obtain⟨q2,q3⟩:=Yr j e hs;rw[q2,q3];rw[q2] at hs;exact lg.mono L (λb s h=>hw b (at_ j b s hs h) λs'=>ne j b s s' e hs (by rw[q2];exact hs) h) (I.bP j)
  ·exact jO hs
 ·by_cases e:i=k<;>by_cases e':j=k
  ·rw[e,e']
  ·obtain⟨q2,q3⟩:=Yr j e' g3;subst e;exact absurd g4 (ne j b s' s e' (q2▸g3) g3 (q3▸g5))
  ·obtain⟨q2,q3⟩:=ow i g1 e;subst e';exact absurd g5 (ne i b s s' e (jx q2) (jx g1) (q3▸g4))
  ·obtain⟨q2,q3⟩:=ow i g1 e;obtain⟨q5,q6⟩:=Yr j e' g3;exact I.inj i j b s s' q2 (q5▸g3) (q3▸g4) (q6▸g5)
 ·intro hO
  by_cases e:j=k
  ·subst e;rcases hb b s g2 with h|⟨i,q1,q2,_⟩
   ·have:=(I.old b hO).1;omega
   ·exact I.lo i b s q1 q2 hO
  ·obtain⟨q2,q3⟩:=Yr j e ade;exact I.lo j b s (q2▸g1) (q3▸g2) hO
 ·by_cases e:j=k
  ·subst e;rcases hb b s g2 with h|⟨i,q1,q2,_⟩
   ·have:=I.xo b hF;have:=I.nx;omega
   ·exact I.fr i b s ade q2 hF
  ·obtain⟨q2,q3⟩:=Yr j e g1;exact I.fr j b s (q2▸g1) (q3▸g2) hF
 ·obtain⟨h1,h2⟩:=I.old b h;refine⟨aef h1 hz,(hw b h1 λs e=> ?_).trans h2⟩;rcases hb b s e with q|⟨i,q1,q2,_⟩
  ·omega
  ·exact I.lo i b s q1 q2 h
 ·obtain⟨k1,k2,k3,k4⟩:=I.lk x hx;obtain⟨q1|⟨_,q⟩,q2⟩:=ho x.1 (hk x hx)
  ·exact⟨aef k1 hL,q1.trans k2,q2.trans k3,k4⟩
  ·rw[k2] at q;exact absurd q k4
def Bs.add (B:Bs) (tb:TB) (p:Option (Nat×Nat)) (w:World):Bs:=⟨B.F0,B.H++[⟨1,tb⟩],B.bs++[p],w⟩
theorem xi {α:Type} (d x:α) (l:List α) (j:Nat):(j<l.length/\nth d (l++[x]) j=nth d l j)\/(j=l.length/\nth d (l++[x]) j=x)\/(l.length<j/\nth d (l++[x]) j=d):=by
 rw[dF]
 by_cases h:j<l.length
 ·rw[adp h];exact .inl ⟨h,rfl⟩
 ·rw[adq h]
  by_cases e:j=l.length
  ·subst e;rw[aep];exact .inr (.inl ⟨rfl,rfl⟩)
  ·exact .inr (.inr ⟨ade,dw _ _ _ (by simp only[adJ];omega)⟩)
theorem wJ {α:Type} (d x:α) (l:List α):nth d (l++[x]) l.length=x:=by rw[dF,adq (Nat.lt_irrefl _),aep];rfl
theorem iT {α:Type} (d x:α) (l:List α) {n:Nat} (h:l.length=n):nth d (l++[x]) n=x:=h▸wJ d x l
theorem eB {α:Type} (l:List α) (x:α):(l++[x]).length=l.length+1:=by simp
theorem mU {B:Bs} {tb:TB} {p:Option (Nat×Nat)} {w:World}:(B.add tb p w).e B.H.length=⟨1,tb⟩:=wJ _ _ _
theorem r_ {B:Bs} {tb:TB} {p:Option (Nat×Nat)} {w:World} (h:B.bs.length=B.H.length):(B.add tb p w).b B.H.length=p:=iT _ _ _ h
theorem YV {B:Bs} {tb:TB} {p:Option (Nat×Nat)} {w:World} (j:Nat) (h:j<B.H.length):(B.add tb p w).e j=B.e j:=by
 show nth _ (B.H++_) j=_;rw[dF,adp h];rfl
theorem YU {B:Bs} {tb:TB} {p:Option (Nat×Nat)} {w:World} (j:Nat) (h:j<B.bs.length):(B.add tb p w).b j=B.b j:=by
 show nth _ (B.bs++_) j=_;rw[dF,adp h];rfl
theorem B_ {B:Bs}:B.e B.H.length= .bu:=dw _ _ _ (adw _)
theorem uZ {B:Bs} {H:List TE} {x:TE} {p:Option (Nat×Nat)} (hH:H.length=B.H.length) (hb:B.bs.length=B.H.length) (j:Nat) (hj:j≠B.H.length):nth .bu (H++[x]) j=nth .bu H j/\nth none (B.bs++[p]) j=B.b j:=by
 constructor
 ·rcases xi TE.bu x H j with⟨_,q⟩|⟨q,_⟩|⟨q1,q⟩
  ·exact q
  ·exact absurd (q.trans hH) hj
  ·rw[q,dw _ _ _ ade]
 ·rcases xi none p B.bs j with⟨_,q⟩|⟨q,_⟩|⟨q1,q⟩
  ·exact q
  ·exact absurd (q.trans hb) hj
  ·rw[q];exact(dw _ _ _ ade).symm
theorem bw.add {X:Fx} {B:Bs} (I:bw X B) {tb:TB} {p:Option (Nat×Nat)} {w':World} (h1:∀b,b<B.w.heap.size->w'.heap[b]? =B.w.heap[b]?) (hz:B.w.heap.size<=w'.heap.size) (PO:dY B.w w')
 (h2:∀b s,p=some (b,s)->B.w.heap.size<=b) (h5:bo B (B.add tb p w')->lg (B.add tb p w') ⟨1,tb⟩ p):bo B (B.add tb p w')/\bw X (B.add tb p w'):=by
 refine I.step B.H.length (B':=B.add tb p w') rfl ?_ ?_ (λj hj=>(uZ rfl I.len j hj).imp .inl id) (λx hx=>Nat.ne_of_lt (I.lk x hx).1) (λb h _=>h1 b h) hz PO (λb s h=> ?_) (λh=>absurd (by rw[B_];rfl) h) (λL _=> ?_)
 ·show(B.bs++[p]).length=(B.H++_).length;rw[eB,eB,I.len]
 ·show _<=(B.H++_).length;rw[eB];omega
 ·rw[r_ I.len] at h;exact .inl (h2 b s h)
 ·rw[mU,r_ I.len];exact h5 L
def Bs.set (B:Bs) (j:Nat) (e:TE) (w:World):Bs:=⟨B.F0,setAt e B.H j,B.bs,w⟩
theorem Ut {B:Bs} {j:Nat} {e:TE} {w:World} (i:Nat):(B.set j e w).e i=if i=j/\j<B.H.length then e else B.e i:=cx _ _ _ _ _
theorem a0E {X:Fx} {B:Bs} (I:bw X B) {j:Nat} (hs:(B.e j).st=1):∀x∈X.lk,x.1≠j:=λx hx e=>by
 obtain⟨_,k2,_,k4⟩:=I.lk x hx;rw[e] at k2;rw[k2] at hs;exact k4 hs
theorem bw.put {X:Fx} {B:Bs} (I:bw X B) {j:Nat} (hs:(B.e j).st=1) {e:TE} {w':World} (h1:∀b,(∀s,B.b j≠some (b,s))->w'.heap[b]? =B.w.heap[b]?) (hz:w'.heap.size=B.w.heap.size) (PO:dY B.w w')
 (h4:e.st≠7/\(B.e j).b.hZ e.b) (h5:bo B (B.set j e w')->e.st<=2->lg (B.set j e w') e (B.b j)):bo B (B.set j e w')/\bw X (B.set j e w'):=by
 have hj:j<B.H.length:=jB ade;have ej:(B.set j e w').e j=e:=by rw[Ut,adp ⟨rfl,hj⟩]
 have eo:∀i,i≠j->(B.set j e w').e i=B.e i:=λi h=>by rw[Ut,adq (λq=>h q.1)]
 refine I.step j (B':=B.set j e w') rfl ?_ ?_ (λi hi=>⟨.inl (eo i hi),rfl⟩) (a0E I hs) (λb _ h=>h1 b h) (Nat.le_of_eq hz.symm) PO (λb s h=> .inr ⟨j,hs,h, .inl rfl⟩) (λ_=> ?_) (λL kY=> ?_)
 ·show B.bs.length=(setAt e B.H j).length;rw[d5];exact I.len
 ·show _<=(setAt e B.H j).length;rw[d5];omega
 ·rw[ej];exact⟨h4.1,rfl,h4.2⟩
 ·rw[ej] at kY⊢;exact h5 L kY
def Bs.mv (B:Bs) (j:Nat) (tb:TB) (p:Option (Nat×Nat)) (w:World):Bs:=⟨B.F0,jo B.H j++[⟨1,tb⟩],B.bs++[p],w⟩
theorem nu {H:List TE} {j:Nat}:(jo H j).length=H.length:=d5 _ _ _
theorem CR {B:Bs} {j:Nat} {tb:TB} {p:Option (Nat×Nat)} {w:World}:(B.mv j tb p w).e B.H.length=⟨1,tb⟩:=iT _ _ _ nu
theorem CQ {B:Bs} {j:Nat} {tb:TB} {p:Option (Nat×Nat)} {w:World} (h:B.bs.length=B.H.length):(B.mv j tb p w).b B.H.length=p:=iT _ _ _ h
theorem bw.mv {X:Fx} {B:Bs} (I:bw X B) {j:Nat} (hs:(B.e j).st=1) {tb:TB} {p:Option (Nat×Nat)} {w':World} (h1:∀b,b<B.w.heap.size->(∀s,p≠some (b,s))->w'.heap[b]? =B.w.heap[b]?) (hz:B.w.heap.size<=w'.heap.size) (PO:dY B.w w')
 (hp:∀b s,p=some (b,s)->B.w.heap.size<=b\/B.b j=some (b,s)) (h5:bo B (B.mv j tb p w')->lg (B.mv j tb p w') ⟨1,tb⟩ p):bo B (B.mv j tb p w')/\bw X (B.mv j tb p w'):=by
 have hj:j<B.H.length:=jB ade;have he:∀i,i≠B.H.length->(B.mv j tb p w').e i=(if i=j then⟨9,(B.e j).b⟩ else B.e i)/\(B.mv j tb p w').b i=B.b i:=λi hi=>by
  obtain⟨q1,q2⟩:=uZ (B:=B) (H:=jo B.H j) (x:=⟨1,tb⟩) (p:=p) nu I.len i hi;refine⟨q1.trans ?_,q2⟩;unfold jo;rw[cx]
  by_cases e:i=j
  ·rw[adp e,adp ⟨e,hj⟩];rfl
  ·rw[adq e,adq (λq=>e q.1)];rfl
 refine I.step B.H.length (B':=B.mv j tb p w') rfl ?_ ?_ (λi hi=> ?_) (λx hx=>Nat.ne_of_lt (I.lk x hx).1) (λb hb h=>h1 b hb λs q=>h s (by rw[CQ I.len];exact q)) hz PO (λb s h=> ?_) (λh=>absurd (by rw[B_];rfl) h) (λL _=> ?_)
 ·show(B.bs++[_]).length=(jo B.H j++_).length;rw[eB,eB,nu,I.len]
 ·show _<=(jo B.H j++_).length;rw[eB,nu];omega
 ·obtain⟨q1,q2⟩:=he i hi
  by_cases e:i=j
  ·rw[adp e] at q1;exact⟨.inr ⟨by rw[q1,e],e▸hs⟩,q2⟩
  ·rw[adq e] at q1;exact⟨.inl q1,q2⟩
 ·rw[CQ I.len] at h;rcases hp b s h with h|h
  ·exact .inl h
  ·exact .inr ⟨j,hs,h, .inr (by rw[(he j (Nat.ne_of_lt hj)).1,adp rfl];exact show 3<=9 by decide)⟩
 ·rw[CR,CQ I.len];exact h5 L
end
noncomputable section
structure fL (H H':List TE):Prop where
 len:H'.length=H.length
 b:∀j,(nth .bu H' j).b=(nth .bu H j).b
 st:∀j,(nth .bu H' j).st=(nth .bu H j).st\/((nth .bu H j).st=1/\(nth .bu H' j).st=0)
theorem fL.refl (H:List TE):fL H H:=⟨rfl,λ_=>rfl,λ_=> .inl rfl⟩
theorem fL.trans {H H' H'':List TE} (h:fL H H') (h':fL H' H''):fL H H'':=by
 refine⟨h'.len.trans h.len,λj=>(h'.b j).trans (h.b j),λj=> ?_⟩;rcases h.st j with g|⟨g1,g2⟩<;>rcases h'.st j with k|⟨k1,k2⟩
 ·exact .inl (k.trans g)
 ·exact .inr ⟨by rw[<-g];exact k1,k2⟩
 ·exact .inr ⟨g1,k.trans g2⟩
 ·rw[g2] at k1;cases k1
theorem gK:∀{l:List Nat} {H H':List TE},freeze H l=some H'->fL H H'/\∀j∈l,(nth .bu H' j).st=0
 |[],H,H',h=>by
  obtain rfl:H=H':=by simpa[freeze] using h
  exact⟨fL.refl _,λj hj=>by cases hj⟩
 |j::r,H,H',h=>by
  unfold freeze at h;split at h
  ·rename_i hE;obtain⟨h1,h2⟩:=gK h;refine⟨h1,λi hi=> ?_⟩;rcases adK.1 hi with e|e
   ·subst e;rcases h1.st i with k|⟨k,_⟩
    ·rw[k,hE]
    ·rw[hE] at k;cases k
   ·exact h2 i e
  ·rename_i b hE;have hj:j<H.length:=by
    by_cases e:j<H.length
    ·exact e
    ·rw[dw _ _ _ ade] at hE;cases hE
   obtain⟨h1,h2⟩:=gK h;have h0:fL H (setAt ⟨0,b⟩ H j):=by
    refine⟨d5 _ _ _,λi=> ?_,λi=> ?_⟩
    ·rw[cx]
     by_cases e:i=j/\j<H.length
     ·rw[adp e,e.1,hE]
     ·rw[adq e]
    ·rw[cx]
     by_cases e:i=j/\j<H.length
     ·rw[adp e,e.1,hE];exact .inr ⟨rfl,rfl⟩
     ·rw[adq e];exact .inl rfl
   refine⟨h0.trans h1,λi hi=> ?_⟩;rcases adK.1 hi with e|e
   ·subst e;have k0:(nth .bu (setAt (⟨0,b⟩:TE) H i) i).st=0:=by rw[cx,adp ⟨rfl,hj⟩]
    rcases h1.st i with k|⟨k,_⟩
    ·rw[k];exact k0
    ·rw[k0] at k;cases k
   ·exact h2 i e
  ·cases h
theorem fL.own {B:Bs} {H':List TE} (h:fL B.H H') {j:Nat} (g:(⟨B.F0,H',B.bs,B.w⟩:Bs).own j):B.own j:=by
 rcases h.st j with k|⟨_,k⟩
 ·unfold Bs.own at g⊢;have e:(nth .bu H' j).st=(B.e j).st:=k;have g:(nth .bu H' j).st=1\/(nth .bu H' j).st=2:=g;rw[e] at g;exact g
 ·have g:(nth .bu H' j).st=1\/(nth .bu H' j).st=2:=g;rw[k] at g;rcases g with g|g<;>cases g
theorem fL.wq {B:Bs} {H':List TE} (h:fL B.H H'):bo B ⟨B.F0,H',B.bs,B.w⟩:=by
 refine⟨λb cs T fz g1 g2=>⟨?_,fz,g2⟩,λj hj=> ?_⟩
 ·rintro(g|⟨j,s,g3,g4⟩)
  ·exact g1 (.inl g)
  ·exact g1 (.inr ⟨j,s,h.own g3,g4⟩)
 ·have hj:(nth .bu B.H j).st≠7:=hj;refine⟨?_,rfl,?_⟩
  ·show(nth .bu H' j).st≠7;rcases h.st j with k|⟨k,_⟩<;>omega
  ·show(nth .bu B.H j).b.hZ (nth .bu H' j).b;rw[h.b j];exact cu _
theorem qh.frozen {w:World} {p:Option (Nat×Nat)} {st:Nat} {Q:Array Value->Prop}:qh w p st Q->qh w p 0 Q
 |⟨b,cs,T,fz,h1,h2,_,h4⟩=>⟨b,cs,T,fz,h1,h2,λh=>absurd rfl h,h4⟩
theorem bw.vK {X:Fx} {B:Bs} (I:bw X B) {H':List TE} (h:fL B.H H'):bw X ⟨B.F0,H',B.bs,B.w⟩:=by
 have L:=h.wq;have kY:∀j,(nth .bu H' j).st<=2->(B.e j).st<=2:=λj g=>by
  show(nth .bu B.H j).st<=2;rcases h.st j with k|⟨k,_⟩<;>omega
 refine⟨by show B.bs.length=H'.length;rw[h.len];exact I.len,λj=> ?_,λi j b s s' g1 g3 g4 g5=>I.inj i j b s s' (h.own g1) (kY j g3) g4 g5,λj b s g1 g2=>I.lo j b s ?_ g2,λj b s g1 g2=>I.fr j b s (kY j g1) g2,I.old,I.nx,I.xo,I.io,I.F0,λx hx=>(I.DO x hx).mono L,λx hx=> ?_⟩
 ·have H1:lg ⟨B.F0,H',B.bs,B.w⟩ (nth .bu B.H j) (nth none B.bs j):=lg.mono L (e:=B.e j) (p:=B.b j) (λ_ _ _=>rfl) (I.bP j);show lg _ (nth .bu H' j) (nth none B.bs j);have e1:=h.b j;have e2:=h.st j;revert H1 e1 e2;generalize nth .bu H' j=E';generalize nth .bu B.H j=E;intro H1 e1 e2;obtain⟨st',tb'⟩:=E';obtain⟨st,tb⟩:=E;obtain rfl:tb'=tb:=e1;rcases e2 with e2|⟨e2,e3⟩
  ·obtain rfl:st'=st:=e2;exact H1
  ·obtain rfl:st=1:=e2;obtain rfl:st'=0:=e3;cases tb' with
   |row e l=>exactλ_=>let⟨k1,k2,k3⟩:=H1 (by decide);⟨k1,k2,k3.imp id qh.frozen⟩
   |box t c=>exactλ_=>⟨(H1 (by decide)).1,(H1 (by decide)).2.imp (λh=>⟨h.1,h.2.frozen⟩) id⟩
   |any c=>exactλ_=>⟨(H1 (by decide)).1,(H1 (by decide)).2.frozen⟩
 ·have g1:(nth .bu H' j).st=1:=g1;show(nth .bu B.H j).st=1;rcases h.st j with k|⟨_,k⟩<;>omega
 ·obtain⟨k1,k2,k3,k4⟩:=I.lk x hx;refine⟨by show _<H'.length;rw[h.len];exact k1,?_,k3,k4⟩;have k2:nth .bu B.H x.1=x.2.1:=k2;show nth .bu H' x.1=x.2.1;have e1:=h.b x.1;have e2:=h.st x.1;rw[k2] at e1 e2;generalize nth .bu H' x.1=E' at e1 e2;generalize x.2.1=E at e1 e2 k4;obtain⟨st',tb'⟩:=E';obtain⟨st,tb⟩:=E;obtain rfl:tb'=tb:=e1;rcases e2 with e2|⟨e2,_⟩
  ·obtain rfl:st'=st:=e2;rfl
  ·exact absurd e2 k4
theorem e_ {a c:Ty} {x:a.T} {y:c.T} (h:dy a c x=some y):∃e:a=c,e▸x=y:=by
 unfold dy at h;split at h
 ·rename_i e;exact⟨e,by simpa using h⟩
 ·cases h
theorem bQ.take {α:Type} {P:α->(Nat->Value)->Nat->Prop} {z:Nat}:∀(n:Nat) {l:List α} {c:Nat->Value} {o:Nat},bQ P z l c o->bQ P z (l.take n) c o
 |0,l,_,_,_=>by rw[List.take_zero];trivial
 |_+1,[],_,_,_=>trivial
 |n+1,_::_,_,_,⟨h1,h2⟩=>⟨h1,bQ.take n h2⟩
theorem bQ.drop {α:Type} {P:α->(Nat->Value)->Nat->Prop} {z:Nat}:∀(n:Nat) {l:List α} {c:Nat->Value} {o:Nat},bQ P z l c o->bQ P z (l.drop n) c (o+n*z)
 |0,l,_,_,h=>by rw[aen];exact h
 |_+1,[],_,_,_=>trivial
 |n+1,_::_,c,o,⟨_,h2⟩=>by
  have:=bQ.drop n h2;rw[List.drop_succ_cons,aei,aeo,Nat.add_comm (n*z),<-adV];exact this
theorem oj {α:Type} {a b:Option α} {y:α} (h:or' a b=some y):a=some y\/b=some y:=by
 cases a with
 |some x=>exact .inl h
 |none=>exact .inr h
theorem iB {t:Ty} {x:TV} {y:t.T} (h:vV t x=some y):x= .v t y:=by
 cases x<;>first|(obtain⟨e,h'⟩:=e_ (show dy _ t _=some y from h);subst e;rw[<-h'])|cases h
theorem NA {x y z:TV} (h:a0y x=some (y,z)):x= .pr y z:=by
 cases x<;>first|(cases h;rfl)|cases h
theorem NC {x:TV} (h:Xa x=true):x= .un:=by
 cases x<;>first|rfl|cases h
theorem Sb {x k i t l c:TV} (h:pr5 x=some (k,i,t,l,c)):x= .pr k (.pr i (.pr t (.pr l (.pr c .un)))):=by
 unfold pr5 at h;split at h
 ·cases h;rfl
 ·cases h
inductive ly (H:List TE):(t:Ty)->TV->t.T->Prop
 |v (t:Ty) (x:t.T):ly H t (.v t x) x
 |nl (e:Ty):ly H (.sl e) .nl (jg e)
 |r (e:Ty) (j st:Nat) (l:(Ty.sl e).T) (h:nth .bu H j=⟨st, .row e l⟩) (hs:st<=2):ly H (.sl e) (.r j) l
 |rn (e:Ty) (j st n:Nat) (l:(Ty.sl e).T) (h:nth .bu H j=⟨st, .row e l⟩) (hs:st<=2):ly H (.sl e) (.rn j n) (av (e:=e) n l)
 |rs (e:Ty) (j st o n:Nat) (l:(Ty.sl e).T) (h:nth .bu H j=⟨st, .row e l⟩) (hs:st<=2):ly H (.sl e) (.rs j o n) (av (e:=e) n (aH (e:=e) o l))
 |un:ly H .un .un ()
 |pr (a c:Ty) (x y:TV) (p:a.T) (q:c.T) (h1:ly H a x p) (h2:ly H c y q):ly H (.pr a c) (.pr x y) (Sc (a:=a) (c:=c) p q)
 |gv (k i t l c:TV) (p:Nat) (q:Int) (r:List Nat) (s:List GV) (b:Bool) (h1:ly H (.u 4) k p) (h2:ly H (.i 3) i q) (h3:ly H .s t r) (h4:ly H (.sl .gv) l s) (h5:ly H .b c b):ly H .gv (.pr k (.pr i (.pr t (.pr l (.pr c .un))))) (iP (p,q,r,s,b,()))
theorem HQ {H:List TE} {e:Ty} {x:TV} {y:(Ty.sl e).T} (h:HP H e x=some y):ly H (.sl e) x y:=by
 have key:∀{j:Nat} {f:(e':Ty)->(Ty.sl e').T->(Ty.sl e').T},(match nth .bu H j with|⟨st, .row e' l⟩=>bif Nat.ble st 2 then dy (.sl e') (.sl e) (f e' l) else none|_=>none)=some y->∃st l,nth .bu H j=⟨st, .row e l⟩/\st<=2/\y=f e l:=by
  intro j f h;split at h
  ·rename_i st e' l hE;cases hb:Nat.ble st 2 with
   |false=>rw[hb] at h;cases h
   |true=>
    rw[hb] at h;obtain⟨e1,e2⟩:=e_ (show dy (.sl e') (.sl e) (f e' l)=some y from h);cases e1;exact⟨st,l,hE,adv hb,e2.symm⟩
  ·cases h
 cases x<;>first|cases h|skip
 ·exact .nl e
 ·obtain⟨st,l,h1,h2,h3⟩:=key (f:=λ_ l=>l) h;rw[h3];exact .r e _ st l h1 h2
 ·obtain⟨st,l,h1,h2,h3⟩:=key (f:=λe' l=>av (e:=e') _ l) h;rw[h3];exact .rn e _ st _ l h1 h2
 ·obtain⟨st,l,h1,h2,h3⟩:=key (f:=λe' l=>av (e:=e') _ (aH (e:=e') _ l)) h;rw[h3];exact .rs e _ st _ _ l h1 h2
theorem du {H:List TE}:∀(t:Ty) (x:TV) {y:t.T},toW H t x=some y->ly H t x y
 | .i k,x,y,h=>by rw[iB h];exact .v _ _
 | .u k,x,y,h=>by rw[iB h];exact .v _ _
 | .b,x,y,h=>by rw[iB h];exact .v _ _
 | .s,x,y,h=>by rw[iB h];exact .v _ _
 | .ar n e,x,y,h=>by rw[iB h];exact .v _ _
 | .sl e,x,y,h=>by
   rcases oj h with h|h
   ·rw[iB h];exact .v _ _
   ·exact HQ h
 | .un,x,y,h=>by
   rcases oj h with h|h
   ·rw[iB h];exact .v _ _
   ·cases hb:Xa x with
    |false=>rw[hb] at h;cases h
    |true=>rw[NC hb];exact .un
 | .pr a c,x,y,h=>by
   rcases oj h with h|h
   ·rw[iB h];exact .v _ _
   ·split at h
    ·rename_i u w hE;rw[NA hE];split at h
     ·rename_i p q h1 h2;cases h;exact .pr a c u w p q (du a u h1) (du c w h2)
     ·cases h
    ·cases h
 | .gv,x,y,h=>by
   rcases oj h with h|h
   ·rw[iB h];exact .v _ _
   ·split at h
    ·rename_i k i t l c hE;rw[Sb hE];split at h
     ·rename_i p q r s b h1 h2 h3 h4 h5;cases h;refine .gv k i t l c p q r s b (by rw[iB h1];exact .v _ _) (by rw[iB h2];exact .v _ _) (by rw[iB h3];exact .v _ _) ?_ (by rw[iB h5];exact .v _ _);rcases oj h4 with h4|h4
      ·rw[iB h4];exact .v _ _
      ·exact HQ h4
     ·cases h
    ·cases h
theorem ly.shape {H:List TE} {t:Ty} {x:TV} {y:t.T} (h:ly H t x y):x.ag=t.ag/\x.cells=t.cells:=by
 induction h with
 |pr a c x y p q _ _ ih1 ih2=>exact⟨rfl,by show x.cells+y.cells=a.cells+c.cells;rw[ih1.2,ih2.2]⟩
 |gv k i t l c p q r s b _ _ _ _ _ i1 i2 i3 i4 i5=>
  refine⟨rfl,?_⟩;show k.cells+(i.cells+(t.cells+(l.cells+(c.cells+0))))=5;rw[i1.2,i2.2,i3.2,i4.2,i5.2];rfl
 |_=>exact⟨rfl,rfl⟩
theorem BP {F:Nat->Prop} {w:World} {z:Nat} {P:(Nat->Value)->Nat->Prop} {a:Value} (hz:1<=z) (h:Zs a):vj F w z 0 P a:=⟨by decide,hz, .inl ⟨rfl,h⟩⟩
theorem zs0 (a:Option Addr):Zs (.slice a 0 0):=⟨a,0,rfl,λ_=>rfl⟩
theorem Fs {X:Fx} {B:Bs} (I:bw X B) {G:Nat->Prop} (hG:∀b,G b->B.F b) {j st:Nat} {e:Ty} {l:(Ty.sl e).T} (hE:B.e j=⟨st, .row e l⟩) (hs:st<=2) (hj:∀b s,B.b j=some (b,s)->¬G b) {o n:Nat} (hn:o+n<=List.length l) {a:Value} (h:fH (B.b j) e.cells o n a):
 vj G B.w e.cells (List.length ((List.drop o l).take n)) (bQ (bI G B.w e) e.cells ((List.drop o l).take n)) a:=by
 have K:kA B.F B.w G B.w:=λb cs T fz h1 h2=>⟨λh=>h1 (hG b h),fz,h2⟩
 have hl:List.length ((List.drop o l).take n)=n:=by rw[adY,ael];omega
 rw[hl];have:=I.bP j;rw[hE] at this;obtain⟨h1,h2,h3⟩:=this hs;rcases h3 with⟨h3,h4⟩|⟨b,cs,T,fz,g1,g2,g3,g4,g5⟩
 ·rw[h3] at h;obtain⟨_,e0,h⟩:=h;subst e0;exact BP h2 h.zs
 ·rw[g1] at h;obtain⟨hb,⟨c,q1,q2,q3⟩|⟨e0,a',q1⟩⟩:=h
  ·refine⟨hb,h2, .inr ⟨b,o*e.cells,c,cs,T,fz,q1,q2,hj b _ g1,g2,?_,?_⟩⟩
   ·rw[<-aei];exact aem (ae4 _ hn) g4
   ·have:=bQ.take n (bQ.drop o g5);rw[adI] at this;exact bQ.mono (bI.mono K e) _ _ _ this
  ·subst e0;subst q1;exact BP h2 (zs0 a')
theorem ly.rep {X:Fx} {B:Bs} (I:bw X B) {G:Nat->Prop} (hG:∀b,G b->B.F b) {t:Ty} {x:TV} {y:t.T} (h:ly B.H t x y):∀{c:Nat->Value} {o:Nat},t.pos=true->(∀j∈ids x,∀b s,B.b j=some (b,s)->¬G b)->Rp B x c o->bI G B.w t y c o:=by
 have K:kA B.F B.w G B.w:=λb cs T fz h1 h2=>⟨λh=>h1 (hG b h),fz,h2⟩
 induction h with
 |v t x=>intro c o _ _ h;exact bI.mono K t x c o h
 |nl e=>
  intro c o hp _ h;have hp:(Nat.ble 1 e.cells&&e.pos)=true:=hp;rw[adr] at hp;exact BP (adv hp.1) (Zn.zs ⟨_,h⟩)
 |r e j st l hE hs=>
  intro c o _ hi h;have hE:B.e j=⟨st, .row e l⟩:=hE;obtain⟨_,h⟩:=h;rw[hE] at h;have:=Fs I hG hE hs (hi j adt) (o:=0) (n:=List.length l) ade h
  rwa [List.drop_zero,List.take_length] at this
 |rn e j st n l hE hs=>
  intro c o _ hi h;have hE:B.e j=⟨st, .row e l⟩:=hE;obtain⟨_,h⟩:=h;rw[hE] at h;have:=Fs I hG hE hs (hi j adt) (o:=0) (n:=n) (by rw[adI];exact h.1) h.2
  rwa [List.drop_zero] at this
 |rs e j st m n l hE hs=>
  intro c o _ hi h;have hE:B.e j=⟨st, .row e l⟩:=hE;obtain⟨_,h⟩:=h;rw[hE] at h;exact Fs I hG hE hs (hi j adt) h.1 h.2
 |un=>intro c o _ _ _;trivial
 |pr a d x y p q s1 s2 ih1 ih2=>
  intro c o hp hi ⟨h1,h2⟩;have hp:(a.pos&&d.pos)=true:=hp;rw[adr] at hp;refine⟨ih1 hp.1 (λj hj=>hi j (adM _ hj)) h1,?_⟩;have:=ih2 hp.2 (λj hj=>hi j (adH _ hj)) h2
  rwa [s1.shape.2] at this
 |gv k i t l d p q r s b s1 s2 s3 s4 s5 i1 i2 i3 i4 i5=>
  intro c o _ hi ⟨h1,h2,h3,h4,h5,_⟩;refine(uT G B.w _ c o).2 ?_;rw[s1.shape.2] at h2 h3 h4 h5;rw[s2.shape.2] at h3 h4 h5;rw[s3.shape.2] at h4 h5;rw[s4.shape.2] at h5;refine⟨i1 rfl (λj hj=>hi j (adM _ hj)) h1,i2 rfl (λj hj=>hi j (adH _ (adM _ hj))) h2,i3 rfl (λj hj=>hi j (adH _ (adH _ (adM _ hj)))) h3,
   i4 rfl (λj hj=>hi j (adH _ (adH _ (adH _ (adM _ hj))))) h4,i5 rfl (λj hj=>hi j (adH _ (adH _ (adH _ (adH _ (adM _ hj)))))) h5,trivial⟩
theorem ly.whole {X:Fx} {B:Bs} (I:bw X B) {G:Nat->Prop} (hG:∀b,G b->B.F b) {t:Ty} {x:TV} {y:t.T} (h:ly B.H t x y) (hp:t.pos=true) (hi:∀j∈ids x,∀b s,B.b j=some (b,s)->¬G b) {a:Value} (H:Rv B x a):xI t.ag t.cells a/\bI G B.w t y (cv a) 0:=by
 obtain⟨h1,h2⟩:=h.shape;have hw:Whole x (Rp B x) a:=by cases h<;>exact H
 have hw:xI x.ag x.cells a/\Rp B x (cv a) 0:=by cases h<;>exact hw
 exact⟨by rw[<-h1,<-h2];exact hw.1,h.rep I hG hp hi hw.2⟩
end
noncomputable section
theorem aQ {ρ:Type} {b:Bool} {x:Option ρ} {y:ρ} (h:(bif b then x else none)=some y):b=true/\x=some y:=by
 cases b
 ·cases h
 ·exact⟨rfl,h⟩
theorem mm {α:Type}:∀(l:List α) (i:Nat),xX l i=l[i]?
 |[],_=>rfl
 |_::_,0=>rfl
 |_::l,i+1=>mm l i
section types
variable {P:Program}
theorem dm {t:TypeId} {i:TypeInfo} (h:gy P t=some i):P.info? t=some i:=by
 unfold gy at h;rw[mm,adU] at h;have ht:t<P.types.size:=(ae3.1 h).1;show(if t<P.types.size then P.types[t]? else _)=_;rw[adp ht];exact h
theorem bp {t:TypeId} {d:TypeDesc} (h:bU P t=some d):P.underlying t=some d/\∃i,P.info? t=some i/\gy P t=some i:=by
 unfold bU at h;cases hi:gy P t with
 |none=>rw[hi] at h;cases h
 |some i=>
  rw[hi] at h;have h':Uw P i.desc=some d:=h;refine⟨?_,i,dm hi,rfl⟩;show Program.underlying P t=some d;unfold Program.underlying;rw[dm hi];cases hd:i.desc with
  |named nm u=>
   rw[hd] at h';have h2:(match gy P u with|some j=>some j.desc|none=>none)=some d:=h';cases hu:gy P u with
   |none=>rw[hu] at h2;cases h2
   |some j=>
    rw[hu] at h2;cases i with
    |mk desc str size bytes hp al fa z cmp ms=>
     simp only at hd;subst hd;simp only[dm hu,Option.map_some];exact h2
  |_=>
   rw[hd] at h';cases i with
   |mk desc str size bytes hp al fa z cmp ms=>
    simp only at hd;subst hd;exact h'
theorem g9 {t:TypeId} {i:TypeInfo} (h:gy P t=some i):cg P t=i.size:=by unfold cg;rw[h]
theorem rF {t:TypeId} (h:1<=cg P t):∃i,gy P t=some i/\P.info? t=some i/\i.size=cg P t:=by
 cases hi:gy P t with
 |none=>unfold cg at h;rw[hi] at h;exact absurd h (by decide)
 |some i=>exact⟨i,rfl,dm hi,(g9 hi).symm⟩
theorem HM {t:TypeId} {d:TypeDesc} (h:bU P t=some d) (w:World):(underlying t).run P w= .ok d w:=run_underlying (bp h).1 w
theorem P0 {t:TypeId} {i:TypeInfo} (h:gy P t=some i) (w:World):(sizeOf t).run P w= .ok (cg P t) w:=by
 simp[sizeOf,typeInfo,dm h,g9 h]
theorem wk {t:TypeId} (h:isAgg P t=true):∃d,bU P t=some d/\d.isRow=true/\∃i,gy P t=some i:=by
 unfold isAgg at h;cases hu:bU P t with
 |none=>rw[hu] at h;cases h
 |some d=>
  obtain⟨_,i,_,hi⟩:=bp hu;refine⟨d,rfl,?_,i,hi⟩;rw[hu] at h;cases d<;>first|rfl|cases h
theorem lI {t:TypeId} {d:TypeDesc} (hd:bU P t=some d) (w:World):(Go.isAgg t).run P w= .ok (isAgg P t) w:=by
 unfold isAgg Go.isAgg;rw[hd,Sem.run_bind,HM hd];cases d<;>rfl
theorem ob {t:TypeId} (h:known P t=true):∃d,bU P t=some d:=Option.isSome_iff_exists.1 h
end types
theorem four {p:Nat->Prop} {k:Nat} (hk:k<4) (h0:p 0) (h1:p 1) (h2:p 2) (h3:p 3):p k:=by
 match k,hk with
 |0,_=>exact h0
 |1,_=>exact h1
 |2,_=>exact h2
 |3,_=>exact h3
theorem Tl {p:Nat->Prop} {k:Nat} (h4:4<=k) (hk:k<8) (h0:p 4) (h1:p 5) (h2:p 6) (h3:p 7):p k:=by
 match k,h4,hk with
 |4,_,_=>exact h0
 |5,_,_=>exact h1
 |6,_,_=>exact h2
 |7,_,_=>exact h3
theorem zW (M H:Nat) (hM:M=2*H) (h0:0<H) (z:Int):Int.bmod z M=if z %(M:Int)>=(H:Int) then z %(M:Int)-(M:Int) else z %(M:Int):=by
 have e:((M:Int)+1)/2=(H:Int):=ade;unfold Int.bmod;simp only[e]
 by_cases h:z %(M:Int)<(H:Int)
 ·rw[adp h,adi]
 ·rw[adq h,adh]
theorem qo (M H:Nat) (hM:M=2*H) (h0:0<H) (z:Int): -(M:Int)<=2*Int.bmod z M/\2*Int.bmod z M<M:=by
 rw[zW M H hM h0 z];have h1:(0:Int)<=z %(M:Int):=Int.emod_nonneg _ ade;have h2:z %(M:Int)<M:=Int.emod_lt_of_pos _ ade;split<;>omega
theorem uz (M H:Nat) (hM:M=2*H) (h0:0<H) (z:Int) (h: -(M:Int)<=2*z/\2*z<M):Int.bmod z M=z:=by
 rw[zW M H hM h0 z]
 by_cases hz:0<=z
 ·rw[Int.emod_eq_of_lt hz ade,adi]
 ·have:z %(M:Int)=z+M:=by
   rw[<-Int.add_emod_right];exact Int.emod_eq_of_lt ade ade
  rw[this,adh];omega
theorem vf (k:IntKind) (M H:Nat) (hs:k.signed=true) (hM:(2:Int)^k.bits=(M:Int)) (hH:(2:Int)^(k.bits-1)=(H:Int)) (h2:M=2*H) (h0:0<H) (z:Int):k.wrap z=Int.bmod z M:=by
 rw[zW M H h2 h0];unfold IntKind.wrap;simp only[hM,hH,hs,adW,adk]
theorem Py {k:Nat} (hk:k<4) (z:Int):(kd k).wrap z=wr k z:=
 four (p:=λk=>(kd k).wrap z=wr k z) hk (vf .i8 256 128 rfl rfl rfl rfl (by decide) z) (vf .i16 65536 32768 rfl rfl rfl rfl (by decide) z) (vf .i32 4294967296 2147483648 rfl rfl rfl rfl (by decide) z) (vf .i64 18446744073709551616 9223372036854775808 rfl rfl rfl rfl (by decide) z)
theorem Y2 {k:Nat} (hk:k<4) (z:Int):ix k (wr k z):=
 four (p:=λk=>ix k (wr k z)) hk (qo 256 128 rfl (by decide) z) (qo 65536 32768 rfl (by decide) z) (qo 4294967296 2147483648 rfl (by decide) z) (qo 18446744073709551616 9223372036854775808 rfl (by decide) z)
theorem Pw {k:Nat} (hk:k<4) {z:Int}:ix k z->wr k z=z:=
 four (p:=λk=>ix k z->wr k z=z) hk (uz 256 128 rfl (by decide) z) (uz 65536 32768 rfl (by decide) z) (uz 4294967296 2147483648 rfl (by decide) z) (uz 18446744073709551616 9223372036854775808 rfl (by decide) z)
theorem rO (k:IntKind) (M:Nat) (hs:k.signed=false) (hM:(2:Int)^k.bits=(M:Int)) (z:Int):k.wrap z=z %(M:Int):=by
 unfold IntKind.wrap;simp[hM,hs]
theorem FK {k:Nat} (h4:4<=k) (hk:k<8) (z:Int):(kd k).wrap z=z %(fo k:Int):=
 Tl (p:=λk=>(kd k).wrap z=z %(fo k:Int)) h4 hk (rO .u8 256 rfl rfl z) (rO .u16 65536 rfl rfl z) (rO .u32 4294967296 rfl rfl z) (rO .u64 18446744073709551616 rfl rfl z)
theorem SK {k:Nat} (h4:4<=k) (hk:k<8) (n:Nat):(kd k).wrap (n:Int)=((n %fo k:Nat):Int):=by rw[FK h4 hk];rfl
theorem pO {k:Nat}:0<fo k:=by unfold fo;split<;>decide
theorem sN {k:Nat} (hk:k<8):fo k=2^(kd k).bits:=by
 by_cases h:k<4
 ·exact four (p:=λk=>fo k=2^(kd k).bits) h rfl rfl rfl rfl
 ·exact Tl (p:=λk=>fo k=2^(kd k).bits) ade hk rfl rfl rfl rfl
theorem CC (q:IntKind):kd (kc q)=q:=by cases q<;>rfl
theorem Hf (q:IntKind):kc q<8:=by cases q<;>decide
theorem Dg {k:Nat} {x:Int} (h:ix k x): -(fo k:Int)<=x/\x<fo k:=by
 obtain⟨h1,h2⟩:=h;have:=pO (k:=k);omega
theorem XW (k:Nat) (x:Int):mM k x<fo k:=by
 have h:=pO (k:=k);have h1:(0:Int)<=x %(fo k:Int):=Int.emod_nonneg _ ade;have h2:x %(fo k:Int)<fo k:=Int.emod_lt_of_pos _ ade;unfold mM;omega
theorem mY {k:Nat} (hk:k<8) (x:Int):(BitVec.ofInt (kd k).bits x).toNat=mM k x:=by
 rw[BitVec.toNat_ofInt];unfold mM;rw[sN hk]
theorem Dz {k n:Nat} (h:n<fo k):mM k (n:Int)=n:=by
 unfold mM;rw[Int.emod_eq_of_lt ade ade];rfl
theorem uy {M a b:Nat} {f:Nat->Nat->Nat} (n:Nat) (h:M=2^n) (hf:∀{x y:Nat},x<2^n->y<2^n->f x y<2^n) (ha:a<M) (hb:b<M):f a b<M:=by subst h;exact hf ha hb
theorem Im {n:Nat} (p q:BitVec n):p&&& ~~~q=p^^^(p&&&q):=by
 apply BitVec.eq_of_getLsbD_eq;intro j hj;simp[hj];cases p[j]<;>cases q[j]<;>rfl
theorem tD {P:Program} {w:World} {k:Nat} (hk:k<8) (x y:Int):
 (Op.intBits .and (kd k) x y).run P w= .ok (.int (kd k) ((kd k).wrap (Nat.land (mM k x) (mM k y):Nat))) w/\(Op.intBits .or (kd k) x y).run P w= .ok (.int (kd k) ((kd k).wrap (Nat.lor (mM k x) (mM k y):Nat))) w/\
 (Op.intBits .xor (kd k) x y).run P w= .ok (.int (kd k) ((kd k).wrap (Nat.xor (mM k x) (mM k y):Nat))) w/\(Op.intBits .andNot (kd k) x y).run P w= .ok (.int (kd k) ((kd k).wrap (Nat.xor (mM k x) (Nat.land (mM k x) (mM k y)):Nat))) w:=by
 refine⟨?_,?_,?_,?_⟩<;>simp only[Op.intBits,Sem.run_pure]
 ·rw[BitVec.toNat_and,mY hk,mY hk];rfl
 ·rw[BitVec.toNat_or,mY hk,mY hk];rfl
 ·rw[BitVec.toNat_xor,mY hk,mY hk];rfl
 ·rw[Im,BitVec.toNat_xor,BitVec.toNat_and,mY hk,mY hk];rfl
theorem tL {b n:Nat} (h:b<=n) (x:Int):(x*2^n) %(2^b:Int)=0:=by
 obtain⟨d,rfl⟩:=Nat.exists_eq_add_of_le h;rw[Int.pow_add,<-Int.mul_assoc,Int.mul_comm x,Int.mul_assoc];exact Int.mul_emod_right _ _
theorem Ss {k:Nat} (hk:k<8) (x:Int) (n:Nat):(kd k).wrap (x*2^(min n (kd k).bits))=(kd k).wrap (x*2^n):=by
 by_cases h:n<=(kd k).bits
 ·rw[Nat.min_eq_left h]
 ·have h:(kd k).bits<=n:=by omega
  rw[Nat.min_eq_right h];unfold IntKind.wrap;rw[tL h,tL (adw _)]
theorem Qe {b n:Nat} (h:b<=n) {x:Int} (h1: -(2^b:Int)<=x) (h2:x<(2^b:Int)):x/2^b=x/2^n:=by
 have hp:∀m:Nat,(0:Int)<2^m:=λm=>Int.pow_pos (by decide)
 have hle:(2:Int)^b<=2^n:=by
  have:=Nat.pow_le_pow_right (n:=2) (by decide) h
  exact_mod_cast this
 by_cases hx:0<=x
 ·rw[Int.ediv_eq_zero_of_lt hx h2,Int.ediv_eq_zero_of_lt hx ade]
 ·have key:∀m:Nat,-(2^m:Int)<=x->x/2^m= -1:=λm hm=>by
   have:=hp m;rw[Int.ediv_eq_iff_of_pos this];omega
  rw[key b h1,key n ade]
theorem fdiv_pow (x:Int) (n:Nat):x.fdiv (2^n)=x/2^n:=Int.fdiv_eq_ediv_of_nonneg _ (Int.le_of_lt (Int.pow_pos (by decide)))
theorem Su {b:Nat} (x:Int) (n:Nat) (h1: -(2^b:Int)<=x) (h2:x<(2^b:Int)):x.fdiv (2^(min n b))=x/2^n:=by
 rw[fdiv_pow]
 by_cases h:n<=b
 ·rw[Nat.min_eq_left h]
 ·rw[Nat.min_eq_right ade];exact Qe ade h1 h2
theorem gZ {P:Program} {w:World} {k:Nat} (hk:k<8) (t:TypeId) (x:Int) (yk:IntKind) (n:Nat) (h1: -(fo k:Int)<=x) (h2:x<fo k):
 (binOp .shl t (.int (kd k) x) (.int yk (n:Int))).run P w= .ok (.int (kd k) ((kd k).wrap (x*2^n))) w/\(binOp .shr t (.int (kd k) x) (.int yk (n:Int))).run P w= .ok (.int (kd k) (x/2^n)) w:=by
 have:¬((n:Int)<0):=ade;have e:(fo k:Int)=2^(kd k).bits:=by rw[sN hk];exact_mod_cast rfl
 rw[e] at h1 h2;constructor
 ·simp only[binOp,Op.shift,this,ae7,adx,Sem.run_pure,Ss hk]
 ·simp only[binOp,Op.shift,this,ae7,adx,Sem.run_pure];rw[Su x n h1 h2]
theorem dv (s:ByteArray):(bZ s).length=s.size:=by simp[bZ]
theorem DW (a b:ByteArray):bZ (a++b)=bZ a++bZ b:=by simp[bZ,ByteArray.data_append]
theorem vr {a b:ByteArray} (h:bZ a=bZ b):a=b:=by
 unfold bZ at h;have h:=(List.map_inj_right (f:=UInt8.toNat) (λx y e=>UInt8.toNat_inj.1 e)).1 h;cases a;cases b;simp only[ByteArray.mk.injEq];exact Array.toList_inj.1 h
theorem Iu {s:ByteArray}:∀x∈bZ s,x<256:=λx h=>by
 obtain⟨b,_,rfl⟩:=List.mem_map.1 h;exact b.toNat_lt
theorem po (s:ByteArray) (i:Nat) (h:i<s.size):(bZ s).getD i 0=(s[i]).toNat:=by
 unfold bZ;rw[adG,List.getElem?_map,adU,adX (by exact h)];rfl
end
noncomputable section
theorem gI {B:Bs} {x:TV} {v:Value} (h:k_ x=true):Rv B x v=(xI x.ag x.cells v/\Rp B x (cv v) 0):=by cases x<;>first|rfl|cases h
theorem pv {v:Value} (h:v.oneCell'=true):cv v=λ_=>v:=by funext i;cases v<;>first|rfl|cases h
theorem SI {x:TV} {v:Value} (hg:x.ag=false) (h:xI x.ag x.cells v):v.oneCell'=true/\x.cells=1:=by rw[hg] at h;exact h
theorem d7 {B:Bs} {x:TV} {v:Value} (hx:k_ x=true) (hg:x.ag=false) (h:Rv B x v):v.oneCell'=true/\Rp B x (λ_=>v) 0:=by
 rw[gI hx] at h;obtain⟨h1,_⟩:=SI hg h.1;exact⟨h1,pv h1▸h.2⟩
theorem dG {B:Bs} {x:TV} {v:Value} (hx:k_ x=true) (hg:x.ag=false) (hc:x.cells=1) (h1:v.oneCell'=true) (h:Rp B x (λ_=>v) 0):Rv B x v:=by
 rw[gI hx];exact⟨by rw[hg];exact⟨h1,hc⟩,by rw[pv h1];exact h⟩
theorem Kd {B:Bs} {k:Nat} {x:(Ty.i k).T} {v:Value} (h:Rv B (.v (.i k) x) v):v= .int (kd k) x/\k<4/\ix k x:=(d7 rfl rfl h).2
theorem Sl {B:Bs} {k:Nat} {x:(Ty.u k).T} {v:Value} (h:Rv B (.v (.u k) x) v):v= .int (kd k) ((x:Nat):Int)/\4<=k/\k<8/\x<fo k:=(d7 rfl rfl h).2
theorem Sk {B:Bs} {x:Ty.b.T} {v:Value} (h:Rv B (.v .b x) v):v= .bool x:=(d7 rfl rfl h).2
theorem PV {B:Bs} {x:Ty.s.T} {v:Value} (h:Rv B (.v .s x) v):∃s,v= .string s/\x=bZ s/\List.length x<dU:=(d7 rfl rfl h).2
theorem TG {B:Bs} {k:Nat} {x:Int} (hk:k<4) (h:ix k x):Rv B (.v (.i k) x) (.int (kd k) x):=dG rfl rfl rfl rfl ⟨rfl,hk,h⟩
theorem PT {B:Bs} {k x:Nat} (h4:4<=k) (hk:k<8) (h:x<fo k):Rv B (.v (.u k) x) (.int (kd k) (x:Int)):=dG rfl rfl rfl rfl ⟨rfl,h4,hk,h⟩
theorem y6 {B:Bs} (x:Bool):Rv B (.v .b x) (.bool x):=dG rfl rfl rfl rfl rfl
theorem mkS {B:Bs} (s:ByteArray) (h:s.size<dU):Rv B (.v .s (bZ s)) (.string s):=dG rfl rfl rfl rfl ⟨s,rfl,rfl,by rw[dv];exact h⟩
def Pure {ρ:Type} (P:Program) (s:Sem Value) (K:TV->R ρ) (y:ρ):Prop:=∃tv r,K tv=some y/\(∀B,Rv B tv r)/\∀w,s.run P w= .ok r w
theorem Pure.of {ρ:Type} {P:Program} {s:Sem Value} {K:TV->R ρ} {y:ρ} {tv:TV} (r:Value) (h:K tv=some y) (h1:∀B,Rv B tv r) (h2:∀w,s.run P w= .ok r w):Pure P s K y:=⟨tv,r,h,h1,h2⟩
theorem lN {B:Bs} {k:Nat} (hk:k<4) (z:Int):Rv B (.v (.i k) (wr k z)) (.int (kd k) ((kd k).wrap z)):=by rw[Py hk];exact TG hk (Y2 hk z)
theorem zd {B:Bs} {k:Nat} (h4:4<=k) (hk:k<8) (n:Nat):Rv B (.v (.u k) (n %fo k)) (.int (kd k) ((kd k).wrap (n:Int))):=by rw[SK h4 hk];exact PT h4 hk (Nat.mod_lt _ pO)
theorem z9 {B:Bs} {k n:Nat} (h4:4<=k) (hk:k<8) (h:n<fo k):Rv B (.v (.u k) n) (.int (kd k) ((kd k).wrap (n:Int))):=by
 have:=zd (B:=B) h4 hk n
 rwa [Nat.mod_eq_of_lt h] at this
theorem a34 {k n:Nat} (h:n<fo k): -(fo k:Int)<=(n:Int)/\(n:Int)<fo k:=ade
theorem E5 {P:Program} {t:TypeId} (hq:bU P t=some .bool) (D:Nat) (x z:Bool) (w:World):(Op.equalIn (D+1) t (.bool x) (.bool z)).run P w= .ok (x==z) w:=by simp[Op.equalIn,HM hq]
theorem HN {x:Int} {n:Nat} (hx:ix 3 x):ix 3 (x/2^n):=by
 obtain⟨q1,q2⟩:=hx;have hp:(0:Int)<2^n:=Int.pow_pos (by decide);have e:fo 3=18446744073709551616:=rfl;rw[e] at q1 q2;show-(fo 3:Int)<=2*(x/2^n)/\2*(x/2^n)<fo 3;rw[e];have a0:(9223372036854775808:Int)*1<=9223372036854775808*2^n:=Int.mul_le_mul_of_nonneg_left ade (by decide);have a1:x/2^n<9223372036854775808:=Int.ediv_lt_of_lt_mul hp ade;have a2: -9223372036854775808<=x/2^n:=by rw[Int.le_ediv_iff_mul_le hp];omega
 omega
section bin
variable {ρ:Type} {T:CT} {B:Bs} {K:TV->R ρ} {y:ρ}
theorem a7s {op:BinOp} {t:TypeId} {x z:Int} {Q:Prop} (hx:ix 3 x) (hz:ix 3 z) (h:(match op with
 | .shl=>jZ z λn=>K (.v (.i 3) (Sr 3 x n))
 | .shr=>jZ z λn=>K (.v (.i 3) (JP 3 x n))
 | .add=>K (.v (.i 3) (ab 3 x z))| .sub=>K (.v (.i 3) (bq 3 x z))| .mul=>K (.v (.i 3) (fg 3 x z))
 | .quo=>O2 z (K (.v (.i 3) (Dc 3 x z)))| .rem=>wS x z (K (.v (.i 3) (w_ 3 x z)))
 | .and=>K (.v (.i 3) (UK 3 x z))| .or=>K (.v (.i 3) (orI 3 x z))| .xor=>K (.v (.i 3) (Y3 3 x z))| .andNot=>K (.v (.i 3) (A3 3 x z))
 | .lss=>K (.v .b (aO x z))| .leq=>K (.v .b (cB x z))| .gtr=>K (.v .b (aO z x))| .geq=>K (.v .b (cB z x))
 | .eql=>K (.v .b (bm x z))| .neq=>K (.v .b (an (bm x z))):R ρ)=some y) (hQ:Pure T.P (binOp op t (.int .i64 x) (.int .i64 z)) K y->Q):Q:=by
 apply hQ;simp only[Ko,Fy,NY,UM,a32,Y4,DY,P6,Fv,AZ,OY] at h;have rx:=Dg hx;have bits:=λw=>tD (P:=T.P) (w:=w) (k:=3) (by decide) x z
 have sh:∀{k:N->R ρ},jZ z k=some y->∃n:Nat,z=n/\k n=some y:=λ{k} h=>by
  rw[jv] at h;split at h
  ·rename_i hz;exact⟨z.toNat,ade,h⟩
  ·cases h
 have nz:∀{k:R ρ},O2 z k=some y->¬z=0/\k=some y:=λ{k} h=>by
  rw[zf] at h;split at h
  ·cases h
  ·rename_i hz;exact⟨hz,h⟩
 have ps:∀{k:R ρ},wS x z k=some y->0<=x/\0<z/\k=some y:=λ{k} h=>by
  rw[sQ] at h;split at h
  ·rename_i hz;exact⟨hz.1,hz.2,h⟩
  ·cases h
 cases op with
 |add=>exact .of _ h (λB=>lN (by decide) _) λw=>by simp only[binOp,Op.intArith,ne_eq,not_true,ae7,Sem.run_pure];rfl
 |sub=>exact .of _ h (λB=>lN (by decide) _) λw=>by simp only[binOp,Op.intArith,ne_eq,not_true,ae7,Sem.run_pure];rfl
 |mul=>exact .of _ h (λB=>lN (by decide) _) λw=>by simp only[binOp,Op.intArith,ne_eq,not_true,ae7,Sem.run_pure];rfl
 |quo=>
  obtain⟨h2,h3⟩:=nz h;exact .of _ h3 (λB=>lN (by decide) _) λw=>by simp only[binOp,Op.intDiv,ne_eq,not_true,ae7,h2,Sem.run_pure];rfl
 |rem=>
  obtain⟨h1,h2,h3⟩:=ps h;have hr:ix 3 (Int.tmod x z):=by
   rw[Int.tmod_eq_emod_of_nonneg h1];have q1:=Int.emod_nonneg x (show z≠0 by omega);have q2:=Int.emod_lt_of_pos x h2;obtain⟨z1,z2⟩:=hz
   exact⟨by have:(0:Int)<=fo 3:=by decide
            omega,ade⟩
  exact .of _ h3 (λB=>by show Rv B (.v (.i 3) (wr 3 (Int.tmod x z))) _;rw[Pw (by decide) hr];exact TG (by decide) hr) λw=>by simp only[binOp,Op.intDiv,ne_eq,not_true,ae7,show¬z=0 by omega,Sem.run_pure];rfl
 |and=>exact .of _ h (λB=>lN (by decide) _) λw=>by simp only[binOp,ne_eq,not_true,ae7];exact(bits w).1
 |or=>exact .of _ h (λB=>lN (by decide) _) λw=>by simp only[binOp,ne_eq,not_true,ae7];exact(bits w).2.1
 |xor=>exact .of _ h (λB=>lN (by decide) _) λw=>by simp only[binOp,ne_eq,not_true,ae7];exact(bits w).2.2.1
 |andNot=>exact .of _ h (λB=>lN (by decide) _) λw=>by simp only[binOp,ne_eq,not_true,ae7];exact(bits w).2.2.2
 |shl=>
  obtain⟨n,rfl,h2⟩:=sh h;exact .of _ h2 (λB=>lN (by decide) _) λw=>(gZ (by decide) t x .i64 n rx.1 rx.2).1
 |shr=>
  obtain⟨n,rfl,h2⟩:=sh h;exact .of _ h2 (λB=>TG (k:=3) (by decide) (HN hx)) λw=>(gZ (k:=3) (by decide) t x .i64 n rx.1 rx.2).2
 |lss=>exact .of _ h (λB=>y6 _) λw=>by simp only[binOp,Op.intCmp,ne_eq,not_true,ae7,Sem.run_pure,aO,cB,bm,eF,gf,an,dM]<;>rfl
 |leq=>exact .of _ h (λB=>y6 _) λw=>by simp only[binOp,Op.intCmp,ne_eq,not_true,ae7,Sem.run_pure,aO,cB,bm,eF,gf,an,dM]<;>rfl
 |gtr=>exact .of _ h (λB=>y6 _) λw=>by simp only[binOp,Op.intCmp,ne_eq,not_true,ae7,Sem.run_pure,aO,cB,bm,eF,gf,an,dM]<;>rfl
 |geq=>exact .of _ h (λB=>y6 _) λw=>by simp only[binOp,Op.intCmp,ne_eq,not_true,ae7,Sem.run_pure,aO,cB,bm,eF,gf,an,dM]<;>rfl
 |eql=>exact .of _ h (λB=>y6 _) λw=>by simp only[binOp,Op.intCmp,ne_eq,not_true,ae7,Sem.run_pure,aO,cB,bm,eF,gf,an,dM]<;>rfl
 |neq=>exact .of _ h (λB=>y6 _) λw=>by simp only[binOp,Op.intCmp,ne_eq,not_true,ae7,Sem.run_pure,aO,cB,bm,eF,gf,an,dM]<;>rfl
theorem XR {k x z:Nat} (h4:4<=k) (hk:k<8) (hx:x<fo k) (hz:z<fo k):(kd k).wrap ((x:Int)-(z:Int))=(((x+fo k-z) %fo k:Nat):Int):=by
 rw[FK h4 hk];have:((x+fo k-z:Nat):Int)=(x:Int)-z+fo k:=ade;rw[Int.natCast_emod,this,Int.add_emod_right]
theorem a7t {op:BinOp} {t:TypeId} {k k' x z:Nat} {Q:Prop} (h4:4<=k) (hk:k<8) (hx:x<fo k) (h4':4<=k') (hk':k'<8) (hz:z<fo k') (h:(match op with
 | .shl=>K (.v (.u k) (la k x z))
 | .shr=>K (.v (.u k) (iV x z))
 |_=>bif Nat.beq k k' then(match op with
  | .add=>K (.v (.u k) (cP k x z))| .sub=>K (.v (.u k) (eE k x z))| .mul=>K (.v (.u k) (sO k x z))
  | .quo=>gO z (K (.v (.u k) (wX x z)))| .rem=>gO z (K (.v (.u k) (eV x z)))
  | .and=>K (.v (.u k) (fW x z))| .or=>K (.v (.u k) (m8 x z))| .xor=>K (.v (.u k) (PA x z))| .andNot=>K (.v (.u k) (UT x z))
  | .lss=>K (.v .b (eF x z))| .leq=>K (.v .b (gf x z))| .gtr=>K (.v .b (eF z x))| .geq=>K (.v .b (gf z x))
  | .eql=>K (.v .b (aR x z))| .neq=>K (.v .b (an (aR x z)))|_=>fail "") else fail "":R ρ)=some y) (hQ:Pure T.P (binOp op t (.int (kd k) x) (.int (kd k') z)) K y->Q):Q:=by
 apply hQ;simp only[vl,Pd,sP,mV,qZ,PC,UU,pY,ke,wY,dR] at h;have _:=h4';have _:=hk';have hM:=pO (k:=k);have same:∀{a:R ρ},(bif Nat.beq k k' then a else fail "")=some y->k'=k/\a=some y:=λ{a} h=>⟨(adu (aQ h).1).symm,(aQ h).2⟩
 have nz:∀{a:R ρ},gO z a=some y->z≠0/\a=some y:=λ{a} h=>by
  rw[e9] at h;split at h
  ·cases h
  ·rename_i hz;exact⟨hz,h⟩
 have bits:=λw=>tD (P:=T.P) (w:=w) (k:=k) hk x z
 rw[Dz hx] at bits;have rx: -(fo k:Int)<=x/\(x:Int)<fo k:=ade;cases op with
 |shl=>exact .of _ h (λB=>zd h4 hk _) λw=>(gZ hk t x (kd k') z rx.1 rx.2).1.trans (by rw[Int.natCast_mul];rfl)
 |shr=>exact .of _ h (λB=>PT h4 hk (Nat.lt_of_le_of_lt (Nat.div_le_self _ _) hx)) λw=>(gZ hk t x (kd k') z rx.1 rx.2).2.trans (by show _=Result.ok (Value.int (kd k) ((x/2^z:Nat):Int)) w;rw[Int.natCast_ediv];rfl)
 |add=>obtain⟨rfl,h⟩:=same h;exact .of _ h (λB=>zd h4 hk _) λw=>by simp only[binOp,Op.intArith,ne_eq,not_true,ae7,Sem.run_pure];rfl
 |mul=>obtain⟨rfl,h⟩:=same h;exact .of _ h (λB=>zd h4 hk _) λw=>by simp only[binOp,Op.intArith,ne_eq,not_true,ae7,Sem.run_pure];rfl
 |sub=>obtain⟨rfl,h⟩:=same h;exact .of _ h (λB=>PT h4 hk (Nat.mod_lt _ hM)) λw=>by simp only[binOp,Op.intArith,ne_eq,not_true,ae7,Sem.run_pure,XR h4 hk hx hz]<;>rfl
 |quo=>
  obtain⟨rfl,h⟩:=same h;obtain⟨h0,h⟩:=nz h;exact .of _ h (λB=>z9 h4 hk (Nat.lt_of_le_of_lt (Nat.div_le_self _ _) hx)) λw=>by simp only[binOp,Op.intDiv,ne_eq,not_true,ae7,show¬(z:Int)=0 by omega,Sem.run_pure];rfl
 |rem=>
  obtain⟨rfl,h⟩:=same h;obtain⟨h0,h⟩:=nz h;exact .of _ h (λB=>PT h4 hk (Nat.lt_of_le_of_lt (Nat.mod_le _ _) hx)) λw=>by simp only[binOp,Op.intDiv,ne_eq,not_true,ae7,show¬(z:Int)=0 by omega,Sem.run_pure];rfl
 |and=>obtain⟨rfl,h⟩:=same h;rw[Dz hz] at bits;exact .of _ h (λB=>z9 h4 hk (uy _ (sN hk) (λh _=>Nat.lt_of_le_of_lt Nat.and_le_left h) hx hz)) λw=>by simp only[binOp,ne_eq,not_true,ae7];exact(bits w).1
 |or=>obtain⟨rfl,h⟩:=same h;rw[Dz hz] at bits;exact .of _ h (λB=>z9 h4 hk (uy _ (sN hk) Nat.or_lt_two_pow hx hz)) λw=>by simp only[binOp,ne_eq,not_true,ae7];exact(bits w).2.1
 |xor=>obtain⟨rfl,h⟩:=same h;rw[Dz hz] at bits;exact .of _ h (λB=>z9 h4 hk (uy _ (sN hk) Nat.xor_lt_two_pow hx hz)) λw=>by simp only[binOp,ne_eq,not_true,ae7];exact(bits w).2.2.1
 |andNot=>obtain⟨rfl,h⟩:=same h;rw[Dz hz] at bits;exact .of _ h (λB=>z9 h4 hk (uy (f:=λx z=>Nat.xor x (Nat.land x z)) _ (sN hk) (λh _=>Nat.xor_lt_two_pow h (Nat.lt_of_le_of_lt Nat.and_le_left h)) hx hz)) λw=>by simp only[binOp,ne_eq,not_true,ae7];exact(bits w).2.2.2
 |lss=>obtain⟨rfl,h⟩:=same h;exact .of _ h (λB=>y6 _) λw=>by simp only[binOp,Op.intCmp,ne_eq,not_true,ae7,Sem.run_pure,Int.ofNat_lt,aO,cB,bm,eF,gf,an,dM]<;>rfl
 |leq=>obtain⟨rfl,h⟩:=same h;exact .of _ h (λB=>y6 _) λw=>by simp only[binOp,Op.intCmp,ne_eq,not_true,ae7,Sem.run_pure,Int.ofNat_le,aO,cB,bm,eF,gf,an,dM]<;>rfl
 |gtr=>obtain⟨rfl,h⟩:=same h;exact .of _ h (λB=>y6 _) λw=>by simp only[binOp,Op.intCmp,ne_eq,not_true,ae7,Sem.run_pure,gt_iff_lt,Int.ofNat_lt,aO,cB,bm,eF,gf,an,dM]<;>rfl
 |geq=>obtain⟨rfl,h⟩:=same h;exact .of _ h (λB=>y6 _) λw=>by simp only[binOp,Op.intCmp,ne_eq,not_true,ae7,Sem.run_pure,ge_iff_le,Int.ofNat_le,aO,cB,bm,eF,gf,an,dM]<;>rfl
 |eql=>obtain⟨rfl,h⟩:=same h;exact .of _ h (λB=>y6 _) λw=>by simp only[binOp,Op.intCmp,ne_eq,not_true,ae7,Sem.run_pure,aR,dM];congr 2;rw[ae8];simp;omega
 |neq=>obtain⟨rfl,h⟩:=same h;exact .of _ h (λB=>y6 _) λw=>by simp only[binOp,Op.intCmp,ne_eq,not_true,ae7,Sem.run_pure,aR,an,dM];congr 2;rw[ae8];simp;omega
theorem AI {k:Nat} {q:Option TypeDesc} (h:(match q with|some (.int q)=>Nat.beq (kc q) k|_=>false)=true):∃q',q=some (.int q'):=by
 cases q with
 |none=>cases h
 |some d=>cases d<;>first|exact⟨_,rfl⟩|cases h
theorem rI (s:ByteArray):(s.toList).map UInt8.toNat=bZ s:=by rw[ByteArray.toList_eq];rfl
theorem Pb (a b:ByteArray):(a.toList==b.toList)=A7 (bZ a) (bZ b):=by
 rw[<-rI,<-rI];unfold A7;rw[dM,ae8,beq_iff_eq,decide_eq_true_iff];exact⟨λh=>by rw[h],λh=>(List.map_inj_right (λx y e=>UInt8.toNat_inj.1 e)).1 h⟩
theorem SB {op:BinOp} {t:TypeId} {a b:TV} {u v:Value} (h:FB T op t a b K=some y) (ha:Rv B a u) (hb:Rv B b v):
 Pure T.P (binOp op t u v) K y/\isIface T.P t=false/\((∃k x k' z,u= .int k x/\v= .int k' z)\/(∃x z,u= .bool x/\v= .bool z)\/∃x z,u= .string x/\v= .string z):=by
 have ifc:∀{q:TypeDesc},bU T.P t=some q->(∀m,q≠ .interface m)->isIface T.P t=false:=λ{q} h h'=>by
  unfold isIface;rw[h];cases q<;>first|rfl|exact absurd rfl (h' _)
 unfold FB at h;split at h
 ·rename_i x z;obtain⟨h0,h⟩:=aQ h;obtain⟨q,hq⟩:=AI h0;obtain⟨e1,_,rx⟩:=Kd ha;obtain⟨e2,_,rz⟩:=Kd hb;subst e1;subst e2;exact⟨a7s rx rz h id,ifc hq (by simp), .inl ⟨_,_,_,_,rfl,rfl⟩⟩
 ·rename_i k x k' z;obtain⟨h0,h⟩:=aQ h;obtain⟨q,hq⟩:=AI h0;obtain⟨e1,a1,a2,a3⟩:=Sl ha;obtain⟨e2,b1,b2,b3⟩:=Sl hb;subst e1;subst e2;exact⟨a7t a1 a2 a3 b1 b2 b3 h id,ifc hq (by simp), .inl ⟨_,_,_,_,rfl,rfl⟩⟩
 ·rename_i k x z;obtain⟨h0,h⟩:=aQ h;obtain⟨q,hq⟩:=AI h0;obtain⟨e1,a1,a2,a3⟩:=Sl ha;obtain⟨e2,_,rz⟩:=Kd hb;subst e1;subst e2;refine⟨?_,ifc hq (by simp), .inl ⟨_,_,_,_,rfl,rfl⟩⟩;have sh:∀{k:N->R ρ},jZ z k=some y->∃n:Nat,z=n/\k n=some y:=λ{k} h=>by
   rw[jv] at h;split at h
   ·rename_i hz;exact⟨Int.toNat z,(Int.toNat_of_nonneg hz).symm,h⟩
   ·cases h
  have rx:=a34 a3;split at h
  ·obtain⟨n,rfl,h2⟩:=sh h;simp only[pY,ke] at h2;exact .of _ h2 (λB=>zd a1 a2 _) λw=>(gZ a2 t _ .i64 n rx.1 rx.2).1.trans (by rw[Int.natCast_mul];rfl)
  ·obtain⟨n,rfl,h2⟩:=sh h;simp only[pY,ke] at h2;exact .of _ h2 (λB=>PT a1 a2 (Nat.lt_of_le_of_lt (Nat.div_le_self _ _) a3)) λw=>(gZ a2 t _ .i64 n rx.1 rx.2).2.trans (by show _=Result.ok (Value.int (kd k) ((x/2^n:Nat):Int)) w;rw[Int.natCast_ediv];rfl)
  ·cases h
 ·rename_i x k' z;obtain⟨h0,h⟩:=aQ h;obtain⟨q,hq⟩:=AI h0;obtain⟨e1,_,rx⟩:=Kd ha;obtain⟨e2,b1,b2,b3⟩:=Sl hb;subst e1;subst e2;refine⟨?_,ifc hq (by simp), .inl ⟨_,_,_,_,rfl,rfl⟩⟩;simp only[P6,Fv] at h;split at h
  ·exact .of _ h (λB=>lN (by decide) _) λw=>(gZ (k:=3) (by decide) t x (kd k') z (Dg rx).1 (Dg rx).2).1
  ·exact .of _ h (λB=>TG (k:=3) (by decide) (HN rx)) λw=>(gZ (k:=3) (by decide) t x (kd k') z (Dg rx).1 (Dg rx).2).2
  ·cases h
 ·rename_i x z;obtain⟨h0,h⟩:=aQ h;have e1:=Sk ha;have e2:=Sk hb;subst e1;subst e2;have hq:bU T.P t=some .bool:=by
   revert h0;cases bU T.P t with
   |none=>intro h;cases h
   |some d=>cases d<;>intro h<;>first|rfl|cases h
  refine⟨?_,ifc hq (by simp), .inr (.inl ⟨_,_,rfl,rfl⟩)⟩;have run:∀w,(Op.equal t (.bool x) (.bool z)).run T.P w= .ok (x==z) w:=E5 hq 9999 x z;split at h
  ·exact .of _ h (λB=>y6 _) λw=>by simp only[binOp,Sem.run_bind,run,Sem.run_pure];rfl
  ·exact .of _ h (λB=>y6 _) λw=>by simp only[binOp,Sem.run_bind,run,Sem.run_pure];rfl
  ·cases h
 ·rename_i x z;obtain⟨h0,h⟩:=aQ h;obtain⟨s,e1,e2,e3⟩:=PV ha;obtain⟨s',e4,e5,e6⟩:=PV hb;subst e1;subst e4;subst e2;subst e5;have hq:bU T.P t=some .string:=by
   revert h0;cases bU T.P t with
   |none=>intro h;cases h
   |some d=>cases d<;>intro h<;>first|rfl|cases h
  refine⟨?_,ifc hq (by simp), .inr (.inr ⟨_,_,rfl,rfl⟩)⟩;split at h
  ·exact .of _ h (λB=>y6 _) λw=>by simp only[binOp,Op.stringOp,Sem.run_pure,Pb]
  ·exact .of _ h (λB=>y6 _) λw=>by simp only[binOp,Op.stringOp,Sem.run_pure,Pb];rfl
  ·rw[dZ] at h;split at h
   ·rename_i hc;have hc:(bZ s).length+(bZ s').length<=1073741824:=hc;rw[dv,dv] at hc;refine .of (.string (s++s')) h (λB=> ?_) λw=> ?_
    ·show Rv B (.v .s (bZ s++bZ s')) _;rw[<-DW];exact mkS _ (by rw[ByteArray.size_append];unfold dU;omega)
    ·have hn:¬(((s.size+s'.size:Nat):Int)>IntKind.i64.max):=by
      have:IntKind.i64.max=9223372036854775807:=by decide
      rw[this];omega
     simp only[binOp,Op.stringOp,hn,ae7,Sem.run_pure]
   ·cases h
  ·cases h
 ·cases h
end bin
end
noncomputable section
theorem nG {P:Program} {op:BinOp} {t:TypeId} {x y:Operand} {u v:Value} (w:World) (h1:¬(u= .nilIface/\v= .nilIface)) (h2:∀cs ds,u= .agg cs->v= .agg ds->P.eqGuardType P.depth t=false):(eqGuard op t x y u v).run P w= .ok () w:=by
 unfold eqGuard;cases op<;>first
  |rfl
  |(simp only[Bool.not_true,aeb,ae7]
    split
    ·exact absurd ⟨rfl,rfl⟩ h1
    ·rename_i cs ds;simp[h2 cs ds rfl rfl]
    ·rfl)
def Y5 (c:Nat) (v:Value):Prop:=match c with
 |0=>∃b,v= .bool b
 |1=>∃s,v= .string s
 |q+2=>∃n,v= .int (kd q) n
theorem KA (x y:ByteArray):(x.toList==y.toList)=true↔x=y:=by
 rw[ByteArray.toList_eq,ByteArray.toList_eq,beq_iff_eq];constructor
 ·intro h;obtain⟨⟨a⟩⟩:=x;obtain⟨⟨b⟩⟩:=y;simp only at h;rw[h]
 ·rintro rfl;rfl
section
variable {P:Program}
def oC (l:List Nat) (xs:Array Value) (o:Nat):Prop:=∀i c,l[i]? =some c->∃v,xs[o+i]? =some v/\Y5 c v
theorem oC.left {a b:List Nat} {xs:Array Value} {o:Nat} (h:oC (a++b) xs o):oC a xs o:=λi c hc=>h i c (by
 obtain⟨hi,_⟩:=aee.1 hc;rw[List.getElem?_append_left hi];exact hc)
theorem oC.right {a b:List Nat} {xs:Array Value} {o:Nat} (h:oC (a++b) xs o):oC b xs (o+a.length):=λi c hc=>by
 obtain⟨v,h1,h2⟩:=h (a.length+i) c (by rw[List.getElem?_append_right ade,ae1];exact hc);exact⟨v,by rw[adV];exact h1,h2⟩
def BO (xs ys:Array Value) (o n:Nat):Prop:=∀i,i<n->xs[o+i]? =ys[o+i]?
theorem Di {xs ys:Array Value} {o n m:Nat}:BO xs ys o (n+m)↔BO xs ys o n/\BO xs ys (o+n) m:=
 ⟨λh=>⟨λi hi=>h i ade,λi hi=>by rw[adV];exact h (n+i) ade⟩,λ⟨h1,h2⟩ i hi=>by
   by_cases e:i<n
   ·exact h1 i e
   ·have:=h2 (i-n) ade;rw[show o+n+(i-n)=o+i by omega] at this;exact this⟩
def Kh (P:Program) (t:TypeId) (l:List Nat) (D:Nat):Prop:=
 l.length=cg P t/\(∃d i,bU P t=some d/\gy P t=some i)/\
 (isAgg P t=false->∃c,l=[c]/\∀w v v',Y5 c v->Y5 c v'->∃r,(Op.equalIn D t v v').run P w= .ok r w/\(r=true↔v=v'))/\
 (isAgg P t=true->∀w xs ys,oC l xs 0->oC l ys 0->∃r,(Op.equalIn D t (.agg xs) (.agg ys)).run P w= .ok r w/\(r=true↔BO xs ys 0 l.length))
theorem Kh.part {t:TypeId} {l:List Nat} {D:Nat} (h:Kh P t l D) (w:World) {xs ys:Array Value} {o:Nat} (hx:oC l xs o) (hy:oC l ys o):
 ∃a b r,(part t xs o).run P w= .ok a w/\(part t ys o).run P w= .ok b w/\(Op.equalIn D t a b).run P w= .ok r w/\(r=true↔BO xs ys o l.length):=by
 obtain⟨hl,⟨d,i,hd,hi⟩,hA,hB⟩:=h;cases sB:isAgg P t with
 |false=>
  obtain⟨c,rfl,hc⟩:=hA sB;obtain⟨v,hv,kv⟩:=hx 0 c rfl;obtain⟨v',hv',kv'⟩:=hy 0 c rfl;obtain⟨r,h1,h2⟩:=hc w v v' kv kv';rw[ae9] at hv hv';have run:∀{zs:Array Value} {z:Value},zs[o]? =some z->(Go.part t zs o).run P w= .ok z w:=λhz=>by
   unfold Go.part;rw[Sem.run_bind,lI hd w,sB];simp[hz]
  refine⟨v,v',r,run hv,run hv',h1,h2.trans ⟨λe j hj=> ?_,λe=> ?_⟩⟩
  ·have:j=0:=by simp at hj;exact hj
   subst this;rw[ae9,hv,hv',e]
  ·have:=e 0 (by simp);rw[ae9,hv,hv'] at this;exact Option.some.inj this
 |true=>
  have run:∀zs:Array Value,(Go.part t zs o).run P w= .ok (.agg (zs.extract o (o+l.length))) w:=λzs=>by
   unfold Go.part;rw[Sem.run_bind,lI hd w,sB];simp[P0 hi,hl]
  have ex:∀{zs:Array Value},oC l zs o->∀j,j<l.length->(zs.extract o (o+l.length))[0+j]? =zs[o+j]? :=λ{zs} hz j hj=>by
   obtain⟨v,hv,_⟩:=hz j l[j] (ae2 hj);have iJ:=(ae3.1 hv).1;rw[adI,Array.getElem?_extract,adh]
  have exK:∀{zs:Array Value},oC l zs o->oC l (zs.extract o (o+l.length)) 0:=λ{zs} hz j c hc=>by
   obtain⟨v,hv,k⟩:=hz j c hc;exact⟨v,by rw[ex hz j (aee.1 hc).1];exact hv,k⟩
  obtain⟨r,h1,h2⟩:=hB sB w _ _ (exK hx) (exK hy);refine⟨_,_,r,run xs,run ys,h1,h2.trans ⟨λe j hj=> ?_,λe j hj=> ?_⟩⟩
  ·rw[<-ex hx j hj,<-ex hy j hj];exact e j hj
  ·rw[ex hx j hj,ex hy j hj];exact e j hj
theorem tA {f:TypeId->Option (List Nat)} {x:Field} {fs:List Field} {o:Nat} {l:List Nat} (h:mj f (x::fs) o=some l):x.offset=o/\x.name≠ "_"/\∃a b,f x.type=some a/\mj f fs (o+a.length)=some b/\l=a++b:=by
 obtain⟨hb,h⟩:=aQ h;rw[adr] at hb;refine⟨adu hb.1,by simpa using hb.2,?_⟩;split at h
 ·rename_i a ha;split at h
  ·rename_i b hb';cases h;exact⟨a,b,ha,hb',rfl⟩
  ·cases h
 ·cases h
theorem yC (w:World) {D:Nat} {f:TypeId->Option (List Nat)} (hf:∀t l,f t=some l->Kh P t l D) {xs ys:Array Value}:∀(fs:List Field) (o:Nat) (l:List Nat),mj f fs o=some l->oC l xs o->oC l ys o->
 ∃r,(Op.eqFields D xs ys fs).run P w= .ok r w/\(r=true↔BO xs ys o l.length)
 |[],o,l,h,_,_=>by
  have:l=[]:=(Option.some.inj h).symm;subst this;exact⟨true,by simp[Op.eqFields],⟨λ_ i hi=>absurd hi (adS _),λ_=>rfl⟩⟩
 |x::fs,o,l,h,hx,hy=>by
  obtain⟨ho,hn',a,b,ha,hbb,rfl⟩:=tA h;obtain⟨va,vb,r,p1,p2,p3,p4⟩:=(hf _ _ ha).part w hx.left hy.left;obtain⟨r',q1,q2⟩:=yC w hf fs (o+a.length) b hbb hx.right hy.right;subst ho;rw[ado];cases r with
  |false=>
   refine⟨false,?_,?_⟩
   ·simp[Op.eqFields,hn',Sem.run_bind,p1,p2,p3]
   ·rw[Di];exact⟨λe=>Bool.noConfusion e,λe=>p4.2 e.1⟩
  |true=>
   refine⟨r',?_,?_⟩
   ·simp[Op.eqFields,hn',Sem.run_bind,p1,p2,p3,q1]
   ·rw[Di,q2];exact⟨λe=>⟨p4.1 rfl,e⟩,λe=>e.2⟩
theorem A6:∀(d:Nat) (t:TypeId) (l:List Nat),IB P d t=some l->∀D,Kh P t l (d+D)/\P.eqGuardType (d+D) t=false
 |0,t,l,h,D=>by cases h
 |d+1,t,l,h,D=>by
  have ih:=A6 d;unfold IB at h;split at h;rotate_left
  ·cases h
  rename_i l' h';obtain⟨hl,h⟩:=aQ h;obtain rfl:l'=l:=Option.some.inj h;have hl:=adu hl;rw[show d+1+D=(d+D)+1 by omega];cases hu:bU P t with
  |none=>rw[hu] at h';cases h'
  |some ds=>
   obtain⟨hU,i,_,hi⟩:=bp hu;rw[hu] at h';have Rx:∀b:Bool,(match some ds with|some (.struct _)|some (.array ..)=>true|_=>false)=b->isAgg P t=b:=λb e=>by
    unfold isAgg;rw[hu];exact e
   have cell:isAgg P t=false->∀c,l'=[c]->(∀w v v',Y5 c v->Y5 c v'->∃r,(Op.equalIn (d+D+1) t v v').run P w= .ok r w/\(r=true↔v=v'))->Kh P t l' (d+D+1):=λsB c hlc hc=>
    ⟨hl,⟨_,i,hu,hi⟩,λ_=>⟨c,hlc,hc⟩,λe=>by rw[sB] at e;cases e⟩
   cases ds with
   |bool=>
    refine⟨cell (Rx _ rfl) 0 (Option.some.inj h').symm λw v v' hv hv'=> ?_,by simp[Program.eqGuardType,hU]⟩;obtain⟨x,rfl⟩:=hv;obtain⟨y,rfl⟩:=hv';exact⟨_,run_equalIn_bool w _ t x y hU,by simp⟩
   |string=>
    refine⟨cell (Rx _ rfl) 1 (Option.some.inj h').symm λw v v' hv hv'=> ?_,by simp[Program.eqGuardType,hU]⟩;obtain⟨x,rfl⟩:=hv;obtain⟨y,rfl⟩:=hv';exact⟨_,run_equalIn_string w _ t x y hU,by rw[KA];simp⟩
   |int q=>
    refine⟨cell (Rx _ rfl) (kc q+2) (Option.some.inj h').symm λw v v' hv hv'=> ?_,by simp[Program.eqGuardType,hU]⟩;obtain⟨x,rfl⟩:=hv;obtain⟨y,rfl⟩:=hv';exact⟨_,run_equalIn_int w _ t _ q x y hU,by simp⟩
   |struct fs=>
    cases hb:P.stoodInHeld t with
    |true=>rw[hb] at h';cases h'
    |false=>
     rw[hb] at h';have h':mj (IB P d) fs.toList 0=some l':=h';have hfs:P.fieldsOf t=fs:=by simp[Program.fieldsOf,hU]
     refine⟨⟨hl,⟨_,i,hu,hi⟩,λe=>by rw[Rx true rfl] at e;exact Bool.noConfusion e,λ_ w xs ys hx hy=> ?_⟩,?_⟩
     ·rw[run_equalIn_struct w (d+D) t xs ys (by rw[hfs];exact hU) hb,hfs];exact yC w (λt l h=>(ih t l h D).1) fs.toList 0 l' h' hx hy
     ·have key:∀(gs:List Field) (o:Nat) (l:List Nat),mj (IB P d) gs o=some l->∀f∈gs,P.eqGuardType (d+D) f.type=false:=by
       intro gs
       induction gs with
       |nil=>intro _ _ _ f hf;cases hf
       |cons x gs ihg=>
        intro o l h f hf;obtain⟨_,_,a,b,ha,hbb,_⟩:=tA h;rcases adK.1 hf with rfl|hf
        ·exact(ih _ _ ha D).2
        ·exact ihg _ _ hbb f hf
      simp only[Program.eqGuardType,hU];rw[Array.any_eq_false];intro j hj;have:=key fs.toList 0 l' h' fs[j] (by simp);simp[this]
   |_=>cases h'
theorem sH {F:Nat->Prop} {w:World}:∀(t:Ty) (l:List Nat),t.kinds=some l->l.length=t.cells/\∀(x:t.T) (c:Nat->Value) (o:Nat),bI F w t x c o->(∀i k,l[i]? =some k->Y5 k (c (o+i)))/\∀(x':t.T) (c':Nat->Value) (o':Nat),bI F w t x' c' o'->(t.DJ x x'=true↔∀i,i<l.length->c (o+i)=c' (o'+i))
 | .un,l,h=>by cases h;exact⟨rfl,λ_ _ _ _=>⟨λi k h=>by simp at h,λ_ _ _ _=>⟨λ_ i hi=>absurd hi (adS _),λ_=>rfl⟩⟩⟩
 | .i k,l,h=>by
   cases h;refine⟨rfl,λx c o ⟨h1,h2,_⟩=>⟨λi q hq=> ?_,λx' c' o' ⟨g1,_,_⟩=> ?_⟩⟩
   ·cases i with
    |zero=>cases hq;exact⟨x,h1⟩
    |succ i=>cases hq
   ·show dec (x=x')=true↔_;rw[dM,decide_eq_true_iff]
    exact⟨λe i hi=>by obtain rfl:i=0:=by simpa using hi
                      rw[ae9,ae9,h1,g1,e],λe=>by have:=e 0 aek;rw[ae9,ae9,h1,g1] at this;injection this⟩
 | .u k,l,h=>by
   cases h;refine⟨rfl,λx c o ⟨h1,_,_,_⟩=>⟨λi q hq=> ?_,λx' c' o' ⟨g1,_,_,_⟩=> ?_⟩⟩
   ·cases i with
    |zero=>cases hq;exact⟨_,h1⟩
    |succ i=>cases hq
   ·show dec (x=x')=true↔_;rw[dM,decide_eq_true_iff]
    exact⟨λe i hi=>by obtain rfl:i=0:=by simpa using hi
                      rw[ae9,ae9,h1,g1,e],λe=>by have:=e 0 aek;rw[ae9,ae9,h1,g1] at this;injection this with _ this;exact Int.ofNat_inj.1 this⟩
 | .b,l,h=>by
   cases h;refine⟨rfl,λx c o h1=>⟨λi q hq=> ?_,λx' c' o' g1=> ?_⟩⟩
   ·cases i with
    |zero=>cases hq;exact⟨x,h1⟩
    |succ i=>cases hq
   ·have h1:c o= .bool x:=h1;have g1:c' o'= .bool x':=g1;show(x==x')=true↔_;rw[beq_iff_eq]
    exact⟨λe i hi=>by obtain rfl:i=0:=by simpa using hi
                      rw[ae9,ae9,h1,g1,e],λe=>by have:=e 0 aek;rw[ae9,ae9,h1,g1] at this;injection this⟩
 | .s,l,h=>by
   cases h;refine⟨rfl,λx c o ⟨s,h1,h2,_⟩=>⟨λi q hq=> ?_,λx' c' o' ⟨s',g1,g2,_⟩=> ?_⟩⟩
   ·cases i with
    |zero=>cases hq;exact⟨s,h1⟩
    |succ i=>cases hq
   ·show dec (x=x')=true↔_;rw[dM,decide_eq_true_iff,h2,g2]
    exact⟨λe i hi=>by obtain rfl:i=0:=by simpa using hi
                      rw[ae9,ae9,h1,g1,vr e],λe=>by have:=e 0 aek;rw[ae9,ae9,h1,g1] at this;injection this with this;rw[this]⟩
 | .pr a b,l,h=>by
   have h:(match a.kinds,b.kinds with|some x,some y=>some (x++y)|_,_=>none)=some l:=h;split at h
   ·rename_i p q hp hq;cases h;obtain⟨l1,H1⟩:=sH (F:=F) (w:=w) a p hp;obtain⟨l2,H2⟩:=sH (F:=F) (w:=w) b q hq;refine⟨by rw[ado,l1,l2];rfl,λx c o ⟨h1,h2⟩=> ?_⟩;obtain⟨k1,e1⟩:=H1 x.1 c o h1;obtain⟨k2,e2⟩:=H2 x.2 c _ h2;refine⟨λi k hk=> ?_,λx' c' o' ⟨g1,g2⟩=> ?_⟩
    ·by_cases hi:i<p.length
     ·rw[List.getElem?_append_left hi] at hk;exact k1 i k hk
     ·rw[List.getElem?_append_right ade] at hk;have:=k2 _ k hk;rw[<-l1,show o+p.length+(i-p.length)=o+i by omega] at this;exact this
    ·show(a.DJ x.1 x'.1&&b.DJ x.2 x'.2)=true↔_;rw[adr,e1 x'.1 c' o' g1,e2 x'.2 c' _ g2,<-l1,ado];constructor
     ·rintro⟨a1,a2⟩ i hi
      by_cases h:i<p.length
      ·exact a1 i h
      ·have:=a2 (i-p.length) ade
       rwa [show o+p.length+(i-p.length)=o+i by omega,show o'+p.length+(i-p.length)=o'+i by omega] at this
     ·intro e;exact⟨λi hi=>e i ade,λi hi=>by have:=e (p.length+i) ade;rwa [<-adV,<-adV] at this⟩
   ·cases h
 | .sl _,_,h| .ar _ _,_,h| .gv,_,h=>by cases h
theorem j4 {cs:Array Value} {i:Nat} (h:i<cs.size):cs[i]? =some (fw cs i):=by
 unfold fw;rw[adX h,adD,adX h];rfl
end
end
end Go.Proofs.YtbjcjppphoppfaaGreat.T
