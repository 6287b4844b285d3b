import Derived.Test.YtbjcjppphoppfaaGreatEAK
set_option linter.all false
namespace Go.Proofs.YtbjcjppphoppfaaGreat.T
open Go
noncomputable section
variable [pf]
theorem fc:∀{hs:List Nat} {h h1:List TE},yH hs h=some h1->h1.length=h.length/\(∀j∈hs,(nth .bu h j).st=1)/\∀i,nth .bu h1 i=if i∈hs then .bu else nth .bu h i
 |[],h,h1,e=>by
  have e:some h=some h1:=e;cases e;exact⟨rfl,λj hj=>(by cases hj),λi=>(by rw[adq (λhj=>by cases hj)])⟩
 |j::r,h,h1,e=>by
  have e:(match(nth .bu h j).st with|1=>yH r (setAt .bu h j)|_=>none)=some h1:=e;split at e;rotate_left
  ·cases e
  rename_i hj;obtain⟨k1,k2,k3⟩:=fc e;have iJ:j<h.length:=by
   apply aeg;intro h';rw[dw _ _ _ h'] at hj;cases hj
  refine⟨k1.trans (d5 _ _ _),λi hi=> ?_,λi=> ?_⟩
  ·rcases adK.1 hi with rfl|hi
   ·exact hj
   ·have:=k2 i hi;rw[cx] at this
    by_cases e:i=j/\j<h.length
    ·rw[adp e] at this;cases this
    ·rw[adq e] at this;exact this
  ·rw[k3 i,cx];simp only[adK]
   by_cases e:i=j
   ·by_cases hi:i∈r<;>simp[e,iJ]
   ·by_cases hi:i∈r<;>simp[e,hi]
theorem jL:∀(ps:List Nat) (h:List TE),(gW ps h).length=h.length/\∀i,nth .bu (gW ps h) i=if i∈ps/\(nth .bu h i).st=1 then⟨2,(nth .bu h i).b⟩ else nth .bu h i
 |[],h=>⟨rfl,λi=>by rw[adq (λk=>by cases k.1)];rfl⟩
 |j::r,h=>by
  have key:∀h':List TE,gW (j::r) h=gW r h'->h'.length=h.length->(∀i,nth .bu h' i=if i=j/\(nth .bu h i).st=1 then⟨2,(nth .bu h i).b⟩ else nth .bu h i)->(gW (j::r) h).length=h.length/\∀i,nth .bu (gW (j::r) h) i=if i∈j::r/\(nth .bu h i).st=1 then⟨2,(nth .bu h i).b⟩ else nth .bu h i:=λh' e hl hn=>by
   obtain⟨k1,k2⟩:=jL r h';rw[e];refine⟨k1.trans hl,λi=> ?_⟩;rw[k2 i,hn i];simp only[adK]
   by_cases e1:i=j
   ·subst e1
    by_cases h1:(nth .bu h i).st=1<;>by_cases e2:i∈r<;>simp[h1,e2]
   ·by_cases h1:(nth .bu h i).st=1<;>by_cases e2:i∈r<;>simp[h1,e1,e2]
  have e0:gW (j::r) h=gW r (match(nth .bu h j).st with|1=>setAt ⟨2,(nth .bu h j).b⟩ h j|_=>h):=rfl;have no:¬(nth .bu h j).st=1->gW (j::r) h=gW r h:=λhj=>by
   rw[e0];split
   ·rename_i h1;exact absurd h1 hj
   ·rfl
  by_cases hj:(nth .bu h j).st=1
  ·have iJ:j<h.length:=by
    apply aeg;intro h';rw[dw _ _ _ h'] at hj;cases hj
   refine key (setAt ⟨2,(nth .bu h j).b⟩ h j) (by rw[e0,hj];rfl) (d5 _ _ _) λi=> ?_
   rw[cx]
   by_cases e:i=j
   ·subst e;rw[adp ⟨rfl,iJ⟩,adp ⟨rfl,hj⟩]
   ·rw[adq (λk=>e k.1),adq (λk=>e k.1)]
  ·refine key h (no hj) rfl λi=> ?_
   by_cases e:i=j
   ·subst e;rw[adq (λk=>hj k.2)]
   ·rw[adq (λk=>e k.1)]
theorem fT:∀(ws:List Nat) (a h:List TE),(restore ws a h).length=h.length/\∀i,nth .bu (restore ws a h) i=if i∈ws/\i<a.length/\i<h.length then nth .bu a i else nth .bu h i
 |[],a,h=>⟨rfl,λi=>by rw[adq (λk=>by cases k.1)];rfl⟩
 |j::r,a,h=>by
  have key:∀h',(bif Nat.ble (Nat.succ j) a.length then setAt (nth .bu a j) h j else h)=h'->h'.length=h.length/\∀i,nth .bu h' i=if i=j/\i<a.length/\i<h.length then nth .bu a i else nth .bu h i:=λh' e=>by
   cases hb:Nat.ble (Nat.succ j) a.length with
   |true=>
    have:=adv hb;rw[hb] at e;have e:setAt (nth .bu a j) h j=h':=e;subst e;refine⟨d5 _ _ _,λi=> ?_⟩;rw[cx]
    by_cases e:i=j
    ·subst e;have hi:i<a.length:=ade;simp[hi]
    ·simp[e]
   |false=>
    rw[hb] at e;have e:h=h':=e;subst e;refine⟨rfl,λi=> ?_⟩;rw[adq];rintro⟨rfl,h2,_⟩;rw[Nat.ble_eq_true_of_le h2] at hb;cases hb
  obtain⟨m1,m2⟩:=key _ rfl;obtain⟨k1,k2⟩:=fT r a (bif Nat.ble (Nat.succ j) a.length then setAt (nth .bu a j) h j else h);rw[m1] at k1 k2;refine⟨k1,λi=> ?_⟩;show nth .bu (restore r a _) i=_;rw[k2 i,m2 i];simp only[adK]
  by_cases e2:i∈r/\i<a.length/\i<h.length
  ·rw[adp e2,adp ⟨.inr e2.1,e2.2⟩]
  ·rw[adq e2]
   by_cases e1:i=j/\i<a.length/\i<h.length
   ·rw[adp e1,adp ⟨.inl e1.1,e1.2⟩]
   ·rw[adq e1,adq (λk=>k.1.elim (λh=>e1 ⟨h,k.2⟩) λh=>e2 ⟨h,k.2⟩)]
def oS:List Nat->List TE->List TE
 |[],h=>h
 |j::r,h=>oS r (setAt .bu h j)
theorem jh:∀(qs:List Nat) (h:List TE),(oS qs h).length=h.length/\∀i,nth .bu (oS qs h) i=if i∈qs then .bu else nth .bu h i
 |[],h=>⟨rfl,λi=>by rw[adq (λk=>by cases k)];rfl⟩
 |j::r,h=>by
  obtain⟨k1,k2⟩:=jh r (setAt .bu h j);rw[d5] at k1;refine⟨k1,λi=> ?_⟩;show nth .bu (oS r (setAt .bu h j)) i=_;rw[k2 i,cx]
  by_cases hi:i∈r
  ·rw[adp hi,adp (ady _ hi)]
  ·rw[adq hi]
   by_cases e:i=j
   ·rw[adp (show i∈j::r from e▸adt)]
    by_cases e2:j<h.length
    ·rw[adp ⟨e,e2⟩]
    ·rw[adq (λk=>e2 k.2),dw _ _ _ ade]
   ·rw[adq (λk=>e k.1),adq (λk=>(adK.1 k).elim e hi)]
def vh (B B':Bs) (j:Nat):Prop:=(B.e j).st≠7->(B'.e j).st≠7/\B'.b j=B.b j/\(B.e j).b.hZ (B'.e j).b
theorem sT {B B':Bs} {j:Nat} (L:vh B B' j) {G:(p:Option (Nat×Nat))->Ty->Nat->Prop} (h:(B.e j).st≠7/\match(B.e j).b with| .row e l=>G (B.b j) e (List.length l)|_=>False):
 (B'.e j).st≠7/\match(B'.e j).b with| .row e l=>G (B'.b j) e (List.length l)|_=>False:=by
 obtain⟨h0,h⟩:=h;obtain⟨k0,g2,g3⟩:=L h0;refine⟨k0,?_⟩;revert h g3;cases(B.e j).b<;>cases(B'.e j).b<;>intro h g3<;>first|exact h.elim|exact g3.elim|skip
 obtain⟨g4,g5⟩:=g3;subst g4;show G (B'.b j) _ _;rw[g2,<-g5];exact h
mutual
theorem Rp.jY {B B':Bs} (K:kA B.F B.w B'.F B'.w):∀(x:TV) (c:Nat->Value) (o:Nat),(∀j∈jA x,vh B B' j)->Rp B x c o->Rp B' x c o
 | .bU,_,_,_,_=>trivial
 | .nI,_,_,_,h=>h.elim
 | .nl,_,_,_,h=>h
 | .v t x,c,o,_,h=>bI.mono K t x c o h
 | .r j,c,o,L,h=>sT (L j adt) (G:=λp e n=>fH p e.cells 0 n (c o)) h
 | .rn j n,c,o,L,h=>sT (L j adt) (G:=λp e k=>n<=k/\fH p e.cells 0 n (c o)) h
 | .rs j m n,c,o,L,h=>sT (L j adt) (G:=λp e k=>m+n<=k/\fH p e.cells m n (c o)) h
 | .p j w,c,o,L,⟨h0,h⟩=>by
   obtain⟨k0,g2,g3⟩:=L j adt h0;obtain⟨b,s,q,k1,k2,k3⟩:=h;exact⟨k0,b,s,q,by rw[g2,k1],by rw[qN g3,k2],k3⟩
 | .q t x,c,o,_,⟨b,p,cs,T,fz,k1,k2,k3,k4,k5⟩=>by
   obtain⟨g1,fz',g2⟩:=K b cs T fz k2 k3;exact⟨b,p,cs,T,fz',k1,g1,g2,k4,bI.mono K t x _ _ k5⟩
 | .un,_,_,_,_=>trivial
 | .pr x y,c,o,L,⟨h1,h2⟩=>⟨Rp.jY K x c o (λj hj=>L j (adM _ hj)) h1,Rp.jY K y c _ (λj hj=>L j (adH _ hj)) h2⟩
 | .tp _,_,_,_,h=>h.elim
 | .cl e l,c,o,_,⟨h1,h2⟩=>⟨h1,bI.mono K (.sl e) l c o h2⟩
 | .nz _,_,_,_,h=>h
 | .m j,c,o,L,⟨h0,⟨x,h1⟩,b,s,h2,h3⟩=>by
   obtain⟨k0,g2,g3⟩:=L j adt h0;rw[h1] at g3;refine⟨k0,?_,b,s,by rw[g2,h2],h3⟩;revert g3;cases(B'.e j).b with
   |box t' c'=>intro g3;have g3:cO=t':=g3;exact⟨c',by rw[g3]⟩
   |_=>exactλg=>g.elim
 | .sa j w n,c,o,L,⟨h0,h⟩=>by
   obtain⟨k0,g2,g3⟩:=L j adt h0;obtain⟨b,s,q,k1,k2,k3⟩:=h;exact⟨k0,b,s,q,by rw[g2,k1],by rw[qN g3,k2],k3⟩
 | .f g x n m,c,o,L,⟨fs,cs,h1,h2,h3,h4⟩=>⟨fs,cs,h1,h2,h3,Rl.jY K x _ L h4⟩
theorem Rl.jY {B B':Bs} (K:kA B.F B.w B'.F B'.w):∀(x:TV) (l:List Value),(∀j∈jA x,vh B B' j)->Rl B x l->Rl B' x l
 | .un,_,_,h=>h
 | .pr x y,l,L,⟨v,r,h1,h2,h3⟩=>⟨v,r,h1,h2.imp λc o=>Rp.jY K x c o (λj hj=>L j (adM _ hj)),Rl.jY K y r (λj hj=>L j (adH _ hj)) h3⟩
 | .bU,_,_,h| .nI,_,_,h| .nl,_,_,h| .v _ _,_,_,h| .r _,_,_,h| .rn _ _,_,_,h| .rs _ _ _,_,_,h| .p _ _,_,_,h| .q _ _,_,_,h| .tp _,_,_,h| .f _ _ _ _,_,_,h| .cl _ _,_,_,h| .nz _,_,_,h| .sa _ _ _,_,_,h| .m _,_,_,h=>h.elim
end
theorem Rv.jY {B B':Bs} (K:kA B.F B.w B'.F B'.w) {x:TV} {a:Value} (L:∀j∈jA x,vh B B' j) (h:Rv B x a):Rv B' x a:=by
 by_cases e:∃y,x= .tp y
 ·obtain⟨y,rfl⟩:=e;obtain⟨t,h1,h2⟩:=h;exact⟨t,h1,Rl.jY K y _ L h2⟩
 ·have e:∀y,x≠ .tp y:=λy h=>e ⟨y,h⟩
  rw[lx e] at h⊢;exact h.imp λc o=>Rp.jY K x c o L
def OU:TB->List Nat
 | .row _ _=>[]
 | .box _ c=>jA c
 | .any c=>jA c
theorem lg.jY {B B':Bs} (K:kA B.F B.w B'.F B'.w) {e:TE} {p:Option (Nat×Nat)} (h:∀b s,p=some (b,s)->B'.w.heap[b]? =B.w.heap[b]?) (L:e.st<=2->∀j∈OU e.b,vh B B' j) (H:lg B e p):lg B' e p:=by
 obtain⟨st,tb⟩:=e;cases tb with
 |row e l=>
  intro hs;obtain⟨h1,h2,h3⟩:=H hs;exact⟨h1,h2,h3.imp id λh3=>h3.mono h λcs ⟨q1,q2⟩=>⟨q1,bQ.mono (bI.mono K e) l _ _ q2⟩⟩
 |box t c=>
  intro hs;obtain⟨h0,h3⟩:=H hs;exact⟨h0,h3.imp (λh3=>⟨h3.1,h3.2.mono h λcs ⟨q1,q0,q2⟩=>⟨q1,q0,Rp.jY K c _ _ (L hs) q2⟩⟩) λ⟨g1,l,g2,b,es,cl,g3,g4,g5⟩=>⟨g1,l,g2,b,es,cl,g3,(h b 0 g3).trans g4,g5⟩⟩
 |any c=>
  intro hs;obtain⟨h0,h3⟩:=H hs;exact⟨h0,h3.mono h λcs ⟨q1,q0,q2⟩=>⟨q1,q0,Rp.jY K c _ _ (L hs) q2⟩⟩
theorem od {h:List TE}:∀{l:List Nat},qQ h l=true->∀j∈l,(nth .bu h j).st≠7
 |[],_,j,hj=>by cases hj
 |i::r,e,j,hj=>by
  have e:(!(Nat.beq (nth .bu h i).st 7)&&qQ h r)=true:=e;rw[adr,adn] at e;rcases adK.1 hj with rfl|hj
  ·exact Nat.ne_of_beq_eq_false e.1
  ·exact od e.2 j hj
theorem yX {s:TS} {h:List TE}:∀{l:List Operand},CH s h l=true->∀x∈l,∀j∈jA (dn s x),(nth .bu h j).st≠7
 |[],_,x,hx=>by cases hx
 |y::r,e,x,hx=>by
  have e:(qQ h (jA (dn s y))&&CH s h r)=true:=e;rw[adr] at e;rcases adK.1 hx with rfl|hx
  ·exact od e.1
  ·exact yX e.2 x hx
theorem yW {h:List TE}:∀{l:List TE},yV h l=true->∀i,(nth .bu l i).st<=2->∀j∈OU (nth .bu l i).b,(nth .bu h j).st≠7
 |[],_,i,hi=>absurd hi (show¬7<=2 by decide)
 |e::r,h0,i,hi=>by
  have h0:(TC h e&&yV h r)=true:=h0;rw[adr] at h0;cases i with
  |succ i=>exact yW h0.2 i hi
  |zero=>
   obtain⟨st,tb⟩:=e;have hi:st<=2:=hi;have hb:=h0.1;cases tb with
   |row _ _=>intro j hj;cases hj
   |box t c=>
    have hb:(!(Nat.ble st 2)||qQ h (jA c))=true:=hb;rw[show Nat.ble st 2=true from Nat.ble_eq_true_of_le hi] at hb;exact od hb
   |any c=>
    have hb:(!(Nat.ble st 2)||qQ h (jA c))=true:=hb;rw[show Nat.ble st 2=true from Nat.ble_eq_true_of_le hi] at hb;exact od hb
section
variable {X:Fx} {B:Bs} {H:List TE} {qs hs ps:List Nat} {h1:List TE}
def WX (B:Bs) (hs:List Nat) (b:Nat):Prop:=∃j s,j∈hs/\B.own j/\B.b j=some (b,s)
def Bs.wrap (B:Bs) (hs ps:List Nat) (h1:List TE):Bs:=⟨λb=>B.F0 b\/WX B hs b,gW ps h1,B.bs,B.w⟩
def NP (B:Bs):List (Nat×TE×Option (Nat×Nat)):=(List.range B.H.length).filterMap λj=>if(B.e j).st=1 then none else some (j,B.e j,B.b j)
theorem Jr {x:Nat×TE×Option (Nat×Nat)} (h:x∈NP B):x.1<B.H.length/\B.e x.1=x.2.1/\B.b x.1=x.2.2/\x.2.1.st≠1:=by
 obtain⟨j,hj,e⟩:=List.mem_filterMap.1 h;have hj:=adL.1 hj;split at e
 ·cases e
 ·rename_i qd;cases e;exact⟨hj,rfl,rfl,qd⟩
theorem nv {X':Fx} {B':Bs} (hX:X'.lk=NP B) (I:bw X' B') {j:Nat} (hj:j<B.H.length) (h:(B.e j).st≠1):j<B'.H.length/\B'.e j=B.e j/\B'.b j=B.b j:=by
 obtain⟨k1,k2,k3,_⟩:=I.lk (j,B.e j,B.b j) (by
  rw[hX];exact List.mem_filterMap.2 ⟨j,adL.2 hj,by rw[adq h]⟩)
 exact⟨k1,k2,k3⟩
def Fx.wrap (X:Fx) (B:Bs) (hs ps:List Nat) (h1:List TE):Fx:=⟨λb=>B.F0 b\/WX B hs b,B.w,λb=>X.O b\/WX B hs b,[],NP (B.wrap hs ps h1)⟩
structure Uz (B:Bs) (H:List TE) (qs:List Nat):Prop where
 len:B.H.length=H.length
 q:∀j∈qs,B.e j= .bu
 e:∀j,j∉qs->B.e j=nth .bu H j
variable (I:bw X B) (G:Uz B H qs) (hq:∀j∈qs,j∈hs) (hh:yH hs H=some h1)
include I G hq hh
theorem lb (j:Nat):(j∈hs/\(B.wrap hs ps h1).e j= .bu)\/(j∉hs/\j∈ps/\(B.e j).st=1/\(B.wrap hs ps h1).e j=⟨2,(B.e j).b⟩)\/(j∉hs/\¬(j∈ps/\(B.e j).st=1)/\(B.wrap hs ps h1).e j=B.e j):=by
 have _:=I;obtain⟨k1,k2,k3⟩:=fc hh;obtain⟨m1,m2⟩:=jL ps h1;have e:(B.wrap hs ps h1).e j=_:=m2 j
 by_cases hj:j∈hs
 ·refine .inl ⟨hj,?_⟩;rw[e,k3 j,adp hj,adq (λk=>absurd k.2 (show¬7=1 by decide))]
 ·have e2:nth .bu h1 j=B.e j:=by rw[k3 j,adq hj,G.e j (λh=>hj (hq j h))]
  rw[e,e2]
  by_cases hp:j∈ps/\(B.e j).st=1
  ·exact .inr (.inl ⟨hj,hp.1,hp.2,by rw[adp hp]⟩)
  ·exact .inr (.inr ⟨hj,hp,by rw[adq hp]⟩)
theorem xD {j:Nat}:(B.wrap hs ps h1).own j↔j∉hs/\B.own j:=by
 unfold Bs.own;rcases lb (ps:=ps) I G hq hh j with⟨a,e⟩|⟨a,b,c,e⟩|⟨a,b,e⟩
 ·rw[e];exact⟨λh=>(by rcases h with h|h<;>cases h),λh=>absurd a h.1⟩
 ·rw[e];exact⟨λ_=>⟨a, .inl c⟩,λ_=> .inr rfl⟩
 ·rw[e];exact⟨λh=>⟨a,h⟩,λh=>h.2⟩
theorem FJ {j:Nat}:((B.wrap hs ps h1).e j).st<=2↔j∉hs/\(B.e j).st<=2:=by
 rcases lb (ps:=ps) I G hq hh j with⟨a,e⟩|⟨a,b,c,e⟩|⟨a,b,e⟩
 ·rw[e];exact⟨λh=>absurd h (show¬7<=2 by decide),λh=>absurd a h.1⟩
 ·rw[e];exact⟨λ_=>⟨a,ade⟩,λ_=>adw 2⟩
 ·rw[e];exact⟨λh=>⟨a,h⟩,λh=>h.2⟩
theorem Px {b:Nat}:(B.wrap hs ps h1).F b↔B.F b:=by
 constructor
 ·rintro((h|⟨j,s,_,h2,h3⟩)|⟨j,s,g1,g2⟩)
  ·exact .inl h
  ·exact .inr ⟨j,s,h2,h3⟩
  ·exact .inr ⟨j,s,((xD I G hq hh).1 g1).2,g2⟩
 ·rintro(h|⟨j,s,g1,g2⟩)
  ·exact .inl (.inl h)
  ·by_cases hj:j∈hs
   ·exact .inl (.inr ⟨j,s,hj,g1,g2⟩)
   ·exact .inr ⟨j,s,(xD I G hq hh).2 ⟨hj,g1⟩,g2⟩
theorem zR {j:Nat} (h:(nth .bu h1 j).st≠7):vh B (B.wrap hs ps h1) j:=λh7=>by
 rcases lb (ps:=ps) I G hq hh j with⟨a,e⟩|⟨a,b,c,e⟩|⟨a,b,e⟩
 ·rw[(fc hh).2.2 j,adp a] at h;exact absurd rfl h
 ·rw[e];exact⟨show 2≠7 by decide,rfl,cu _⟩
 ·rw[e];exact⟨h7,rfl,cu _⟩
theorem xC:kA B.F B.w (B.wrap hs ps h1).F B.w:=λb cs T fz g1 g2=>⟨λh=>g1 ((Px I G hq hh).1 h),fz,g2⟩
theorem Pz (hL:yV h1 h1=true):bw (X.wrap B hs ps h1) (B.wrap hs ps h1):=by
 have hl:(B.wrap hs ps h1).H.length=B.H.length:=by
  show(gW ps h1).length=_;rw[(jL ps h1).1,(fc hh).1,G.len]
 have hF:∀{b},WX B hs b->b<B.w.heap.size:=λ{b} ⟨j,s,_,h2,h3⟩=>Ki I (.inr ⟨j,s,h2,h3⟩)
 have apart:∀{j b s},j∉hs->(B.e j).st<=2->B.b j=some (b,s)->¬WX B hs b:=λ{j b s} h1 h2 h3 ⟨i,s',g1,g2,g3⟩=>by
  have:=I.inj i j b s' s g2 h2 g3 h3;subst this;exact h1 g1
 refine⟨by rw[hl];exact I.len,λj=> ?_,λi j b s s' g1 g2 g3 g4=>I.inj i j b s s' ((xD I G hq hh).1 g1).2 ((FJ I G hq hh).1 g2).2 g3 g4,λj b s g1 g2=> ?_,λj b s g1 g2=> ?_,λb h=> ?_,adw _,λb h=> ?_,dY.refl _,rfl,λx hx=>(by cases hx),λx hx=>Jr hx⟩
 ·have K:=xC (ps:=ps) I G hq hh;have L:∀st,st<=2->j∉hs->(B.e j).st<=2->∀i∈OU (⟨st,(B.e j).b⟩:TE).b,vh B (B.wrap hs ps h1) i:=λst _ hj h2 i hi=>by
   have e:nth .bu h1 j=B.e j:=by rw[(fc hh).2.2 j,adq hj,G.e j (λh=>hj (hq j h))]
   exact zR I G hq hh (yW hL j (by rw[e];exact h2) i (by rw[e];exact hi))
  rcases lb (ps:=ps) I G hq hh j with⟨a,e⟩|⟨a,b,c,e⟩|⟨a,b,e⟩
  ·rw[e];exact jO (show¬7<=2 by decide)
  ·rw[e];have:=I.bP j;rw[Bu (B.e j),c] at this;exact lg.jY (B:=B) K (λ_ _ _=>rfl) (λh=>L 2 h a ade) (this.st (by decide) λ_=>by decide)
  ·rw[e];exact lg.jY (B:=B) K (λ_ _ _=>rfl) (λh=>L (B.e j).st h a h) (I.bP j)
 ·have h2:=(FJ I G hq hh).1 (show((B.wrap hs ps h1).e j).st<=2 by omega);have h3:(B.e j).st=1:=by
   rcases lb (ps:=ps) I G hq hh j with⟨a,e⟩|⟨a,b,c,e⟩|⟨a,b,e⟩
   ·exact absurd a h2.1
   ·exact c
   ·rw[e] at g1;exact g1
  rintro(h|h)
  ·exact I.lo j b s h3 g2 h
  ·exact apart h2.1 h2.2 g2 h
 ·have h2:=(FJ I G hq hh).1 g1;rintro(h|h)
  ·rw[I.F0] at h;exact I.fr j b s h2.2 g2 h
  ·exact apart h2.1 h2.2 g2 h
 ·rcases h with h|h
  ·exact⟨(I.old b h).1,rfl⟩
  ·exact⟨hF h,rfl⟩
 ·rcases h with h|h
  ·rw[I.F0] at h;exact aef (I.xo b h) I.nx
  ·exact hF h
def Bs.fK (B B2:Bs) (H:List TE) (qs hs ps:List Nat):Bs:=⟨B.F0,oS qs (restore (hs++ps) H B2.H),B2.bs,B2.w⟩
theorem DB {B2:Bs} (I2:bw (X.wrap B hs ps h1) B2) (j:Nat):(j∈qs/\(B.fK B2 H qs hs ps).e j= .bu/\B.e j= .bu/\B2.e j= .bu/\B2.b j=B.b j)\/(j∈hs/\(B.fK B2 H qs hs ps).e j=B.e j/\(B.e j).st=1/\B2.e j= .bu/\B2.b j=B.b j)\/
 (j∉hs/\(B.fK B2 H qs hs ps).e j=B.e j/\B2.b j=B.b j/\(B2.e j=B.e j\/((B.e j).st=1/\B2.e j=⟨2,(B.e j).b⟩)))\/(j∉hs/\(B.fK B2 H qs hs ps).e j=B2.e j/\(j<B.H.length->(B.wrap hs ps h1).e j=B.e j)):=by
 obtain⟨k1,k2,k3⟩:=fc hh;have hl:(B.wrap hs ps h1).H.length=B.H.length:=by
  show(gW ps h1).length=_;rw[(jL ps h1).1,k1,G.len]
 have e:(B.fK B2 H qs hs ps).e j=_:=((jh qs (restore (hs++ps) H B2.H)).2 j).trans (by rw[(fT (hs++ps) H B2.H).2 j])
 by_cases Jc:j∈hs
 ·have h1':=k2 j Jc;have nq:j<H.length:=by
   apply aeg;intro h';rw[dw _ _ _ h'] at h1';cases h1'
  have we:(B.wrap hs ps h1).e j= .bu:=by
   rcases lb (ps:=ps) I G hq hh j with⟨_,e⟩|⟨a,_⟩|⟨a,_⟩
   ·exact e
   ·exact absurd Jc a
   ·exact absurd Jc a
  obtain⟨m1,m2,m3⟩:=nv (X':=X.wrap B hs ps h1) rfl I2 (j:=j) (by rw[hl,G.len];exact nq) (by rw[we];decide);rw[we] at m2
  by_cases DL:j∈qs
  ·refine .inl ⟨DL,?_,G.q j DL,m2,m3⟩;rw[e,adp DL]
  ·refine .inr (.inl ⟨Jc,?_,by rw[G.e j DL];exact h1',m2,m3⟩);rw[e,adq DL,adp ⟨adM _ Jc,nq,m1⟩,G.e j DL]
 ·have DL:j∉qs:=λh=>Jc (hq j h)
  have eH:B.e j=nth .bu H j:=G.e j DL
  by_cases hp:j∈ps/\j<H.length
  ·have Nq:((B.wrap hs ps h1).e j).st≠1/\((B.wrap hs ps h1).e j=B.e j\/((B.e j).st=1/\(B.wrap hs ps h1).e j=⟨2,(B.e j).b⟩)):=by
    rcases lb (ps:=ps) I G hq hh j with⟨a,_⟩|⟨a,b,c,e⟩|⟨a,b,e⟩
    ·exact absurd a Jc
    ·rw[e];exact⟨show 2≠1 by decide, .inr ⟨c,rfl⟩⟩
    ·rw[e];exact⟨λh=>b ⟨hp.1,h⟩, .inl rfl⟩
   obtain⟨m1,m2,m3⟩:=nv (X':=X.wrap B hs ps h1) rfl I2 (j:=j) (by rw[hl,G.len];exact hp.2) Nq.1;refine .inr (.inr (.inl ⟨Jc,?_,m3,by rw[m2];exact Nq.2⟩));rw[e,adq DL,adp ⟨adH _ hp.1,hp.2,m1⟩,eH]
  ·refine .inr (.inr (.inr ⟨Jc,?_,λiJ=> ?_⟩))
   ·rw[e,adq DL,adq]
    ·rfl
    ·rintro⟨h,h',_⟩;exact(adC.1 h).elim Jc λh=>hp ⟨h,h'⟩
   ·rcases lb (ps:=ps) I G hq hh j with⟨a,_⟩|⟨a,b,c,e⟩|⟨a,b,e⟩
    ·exact absurd a Jc
    ·exact absurd ⟨b,by rw[<-G.len];exact iJ⟩ hp
    ·exact e
theorem DC {B2:Bs} (I2:bw (X.wrap B hs ps h1) B2) (L2:bo (B.wrap hs ps h1) B2):bo B (B.fK B2 H qs hs ps)/\bo B2 (B.fK B2 H qs hs ps):=by
 have F0:∀b,B2.F0 b↔(B.F0 b\/WX B hs b):=λb=>by rw[I2.F0];rfl
 have ow:∀j s b,(B.fK B2 H qs hs ps).own j->B2.b j=some (b,s)->B2.F b:=λj s b h1' h2=>by
  unfold Bs.own at h1';rcases DB I G hq hh I2 j with⟨_,e,_⟩|⟨a,e,c,_,d⟩|⟨a,e,c,d⟩|⟨a,e,_⟩
  ·rw[e] at h1';rcases h1' with h|h<;>cases h
  ·rw[d] at h2;exact .inl ((F0 b).2 (.inr ⟨j,s,a, .inl c,h2⟩))
  ·rw[e] at h1';refine .inr ⟨j,s,?_,h2⟩;unfold Bs.own;rcases d with d|⟨_,d⟩
   ·rw[d];exact h1'
   ·rw[d];exact .inr rfl
  ·rw[e] at h1';exact .inr ⟨j,s,h1',h2⟩
 have F2:∀b,(B.fK B2 H qs hs ps).F b->B2.F b:=by
  rintro b (h|⟨j,s,g1,g2⟩)
  ·exact .inl ((F0 b).2 (.inl h))
  ·exact ow j s b g1 g2
 refine⟨⟨λb cs T fz g1 g2=> ?_,λj h7=> ?_⟩,⟨λb cs T fz g1 g2=>⟨λh=>g1 (F2 b h),fz,g2⟩,λj h7=> ?_⟩⟩
 ·obtain⟨k1,fz',k2⟩:=L2.k b cs T fz (λh=>g1 ((Px I G hq hh).1 h)) g2;exact⟨λh=>k1 (F2 b h),fz',k2⟩
 ·rcases DB I G hq hh I2 j with⟨_,e,c,_⟩|⟨a,e,c,_,d⟩|⟨a,e,c,d⟩|⟨a,e,c⟩
  ·rw[c] at h7;exact absurd rfl h7
  ·rw[e];exact⟨h7,d,cu _⟩
  ·rw[e];exact⟨h7,c,cu _⟩
  ·have c:=c (jB h7);have:=L2.e j (by rw[c];exact h7);rw[c] at this;rw[e];exact this
 ·rcases DB I G hq hh I2 j with⟨_,e,_,c,_⟩|⟨a,e,_,c,_⟩|⟨a,e,c,d⟩|⟨a,e,c⟩
  ·rw[c] at h7;exact absurd rfl h7
  ·rw[c] at h7;exact absurd rfl h7
  ·rw[e];rcases d with d|⟨d0,d⟩
   ·rw[d] at h7⊢;exact⟨h7,rfl,cu _⟩
   ·rw[d];exact⟨by rw[d0];decide,rfl,cu _⟩
  ·rw[e];exact⟨h7,rfl,cu _⟩
theorem XZ (hX:∀x∈X.lk,x.1∉hs) {B2:Bs} (I2:bw (X.wrap B hs ps h1) B2) (L2:bo (B.wrap hs ps h1) B2):bw X (B.fK B2 H qs hs ps):=by
 obtain⟨L,L'⟩:=DC I G hq hh I2 L2;have cs:∀j,((B.fK B2 H qs hs ps).e j).st<=2->(j∈hs/\(B.fK B2 H qs hs ps).e j=B.e j/\(B.e j).st=1/\B2.b j=B.b j)\/(j∉hs/\(B2.e j).st<=2/\((B.fK B2 H qs hs ps).own j->B2.own j)):=λj h=>by
  rcases DB I G hq hh I2 j with⟨_,e,_⟩|⟨a,e,c,_,d⟩|⟨a,e,c,d⟩|⟨a,e,_⟩
  ·rw[e] at h;exact absurd h (show¬7<=2 by decide)
  ·exact .inl ⟨a,e,c,d⟩
  ·rw[e] at h;refine .inr ⟨a,?_,λho=> ?_⟩
   ·rcases d with d|⟨_,d⟩
    ·rw[d];exact h
    ·rw[d];exact adw 2
   ·unfold Bs.own at ho⊢;rw[e] at ho;rcases d with d|⟨_,d⟩
    ·rw[d];exact ho
    ·rw[d];exact .inr rfl
  ·rw[e] at h;exact .inr ⟨a,h,λho=>by unfold Bs.own at ho⊢;rw[e] at ho;exact ho⟩
 have hidden:∀{j b s},j∈hs->(B.e j).st=1->B2.b j=B.b j->B2.b j=some (b,s)->WX B hs b:=λ{j b s} h1 h2 h3 h4=>⟨j,s,h1, .inl h2,by rw[<-h3];exact h4⟩
 refine⟨?_,λj=> ?_,λi j b s s' g1 g2 g3 g4=> ?_,λj b s g1 g2=> ?_,λj b s g1 g2=> ?_,λb h=> ?_,aem I.nx I2.nx,I.xo,I.io.trans I2.io,I.F0,λx hx=>(I.DO x hx).mono L,λx hx=> ?_⟩
 ·show B2.bs.length=(oS qs (restore (hs++ps) H B2.H)).length;rw[(jh _ _).1,(fT _ _ _).1,I2.len]
 ·show lg _ _ (B2.b j);rcases DB I G hq hh I2 j with⟨_,e,_⟩|⟨a,e,c,_,d⟩|⟨a,e,c,d⟩|⟨a,e,_⟩
  ·rw[e];exact jO (show¬7<=2 by decide)
  ·rw[e,d];refine lg.mono L (λb s h=> ?_) (I.bP j);exact(I2.old b (.inr ⟨j,s,a, .inl c,h⟩)).2
  ·rw[e];have:=I2.bP j;rcases d with d|⟨d0,d⟩
   ·rw[d] at this;exact lg.mono L' (λ_ _ _=>rfl) this
   ·rw[d] at this;rw[Bu (B.e j),d0];exact lg.mono L' (λ_ _ _=>rfl) (this.st (by decide) λ_=>by decide)
  ·rw[e];exact lg.mono L' (λ_ _ _=>rfl) (I2.bP j)
 ·rcases cs i (jx g1) with⟨a1,a2,a3,a4⟩|⟨a1,a2,a3⟩
  ·rcases cs j g2 with⟨b1,b2,b3,b4⟩|⟨b1,b2,b3⟩
   ·have g3:B2.b i=some (b,s):=g3;have g4:B2.b j=some (b,s'):=g4;rw[a4] at g3;rw[b4] at g4;exact I.inj i j b s s' (.inl a3) ade g3 g4
   ·exact absurd (.inr (hidden a1 a3 a4 g3)) (I2.fr j b s' b2 g4)
  ·rcases cs j g2 with⟨b1,b2,b3,b4⟩|⟨b1,b2,b3⟩
   ·exact absurd (.inr (hidden b1 b3 b4 g4)) (I2.fr i b s a2 g3)
   ·exact I2.inj i j b s s' (a3 g1) b2 g3 g4
 ·intro hO;rcases DB I G hq hh I2 j with⟨_,e,_⟩|⟨a,e,c,_,d⟩|⟨a,e,c,d⟩|⟨a,e,_⟩
  ·rw[e] at g1;cases g1
  ·rw[e] at g1;exact I.lo j b s g1 (d.symm.trans g2) hO
  ·rw[e] at g1;exact I.lo j b s g1 (c.symm.trans g2) hO
  ·rw[e] at g1;exact I2.lo j b s g1 g2 (.inl hO)
 ·intro hO;rcases cs j g1 with⟨a1,a2,a3,a4⟩|⟨a1,a2,a3⟩
  ·exact I.fr j b s ade (a4.symm.trans g2) hO
  ·exact I2.fr j b s a2 g2 (.inl (by rw[I.F0];exact hO))
 ·obtain⟨k1,k2⟩:=I.old b h;exact⟨aef k1 I2.nx,((I2.old b (.inl h)).2).trans k2⟩
 ·obtain⟨k1,k2,k3,k4⟩:=I.lk x hx;have Rz:x.1<B2.H.length->x.1<(B.fK B2 H qs hs ps).H.length:=λh=>by
   show _<(oS qs (restore (hs++ps) H B2.H)).length;rw[(jh _ _).1,(fT _ _ _).1];exact h
  have hlen:(B.wrap hs ps h1).H.length=B.H.length:=by
   show(gW ps h1).length=_;rw[(jL ps h1).1,(fc hh).1,G.len]
  have w1:((B.wrap hs ps h1).e x.1).st≠1/\(B.wrap hs ps h1).e x.1=B.e x.1:=by
   rcases lb (ps:=ps) I G hq hh x.1 with⟨a,_⟩|⟨a,b,c,e⟩|⟨a,b,e⟩
   ·exact absurd a (hX x hx)
   ·rw[k2] at c;exact absurd c k4
   ·rw[e,k2];exact⟨k4,rfl⟩
  obtain⟨m1,m2,m3⟩:=nv (X':=X.wrap B hs ps h1) rfl I2 (j:=x.1) (by rw[hlen];exact k1) w1.1;refine⟨Rz m1,?_,m3.trans k3,k4⟩;rcases DB I G hq hh I2 x.1 with⟨a,_⟩|⟨a,_⟩|⟨a,e,c,d⟩|⟨a,e,_⟩
  ·exact absurd (hq _ a) (hX x hx)
  ·exact absurd a (hX x hx)
  ·exact e.trans k2
  ·rw[e,m2,w1.2];exact k2
end
end
noncomputable section
variable [pf]
def ig (ops:Array Oper) (o:Oper) (s:TS) (b:Bool):Prop:=match o.guard with
 |none=>b=true
 |some (j,want)=>∃t,(ops[j]?).bind (·.dst)=some t/\((∃c:Bool,nth .bU s.fr t= .v .b c/\b=(c==want))\/(nth .bU s.fr t= .nI/\b=false))
theorem tr {t:Nat} {s:TS} {b:Bool} (h:nth .bU s.fr t= .v .b b):assume t b s=s:=by
 show(⟨setAt (.v .b b) s.fr t,s.hp⟩:TS)=s;rw[pW h]
theorem zL {ρ:Type} {ops:Array Oper} {o:Oper} {s:TS} {go:TS->(TV->TS->R ρ)->R ρ} {put:TV->TS->Option TS} {K:TS->R ρ} {y:ρ} (h:rH ops o s go put K=some y):
 (ig ops o s true/\go s (λx s=>match put x s with|some s=>K s|none=>none)=some y)\/(ig ops o s false/\∃s2,put .nI s=some s2/\K s2=some y):=by
 have fin:∀{s1:TS},(match put .nI s1 with|some s=>K s|none=>none)=some y->∃s2,put .nI s1=some s2/\K s2=some y:=λ{s1} h=>by
  split at h
  ·rename_i s2 e;exact⟨s2,e,h⟩
  ·cases h
 unfold rH at h;dsimp only at h;split at h
 ·rename_i hg;exact .inl ⟨by unfold ig;rw[hg],h⟩
 ·rename_i j want hg;split at h
  ·cases h
  ·rename_i t ht;have tw:∀b,((∃c:Bool,nth .bU s.fr t= .v .b c/\b=(c==want))\/(nth .bU s.fr t= .nI/\b=false))->ig ops o s b:=λb hb=>by
    unfold ig;rw[hg];exact⟨t,ht,hb⟩
   split at h
   ·rename_i c hc;rcases uD h with⟨e,h⟩|⟨e,h⟩
    ·have e:c=true:=e;have hc:nth .bU s.fr t= .v .b true:=by rw[hc,e]
     rw[tr hc] at h;cases want with
     |true=>exact .inl ⟨tw true (.inl ⟨true,hc,rfl⟩),h⟩
     |false=>exact .inr ⟨tw false (.inl ⟨true,hc,rfl⟩),fin h⟩
    ·have e:c=false:=e;have hc:nth .bU s.fr t= .v .b false:=by rw[hc,e]
     rw[tr hc] at h;cases want with
     |true=>exact .inr ⟨tw false (.inl ⟨false,hc,rfl⟩),fin h⟩
     |false=>exact .inl ⟨tw true (.inl ⟨false,hc,rfl⟩),h⟩
   ·rename_i hc;exact .inr ⟨tw false (.inr ⟨hc,rfl⟩),fin h⟩
   ·cases h
theorem CO {t:Nat} {l:List Operand} (h:Operand.tmp t∈l):t∈kI l:=by
 induction l with
 |nil=>cases h
 |cons x r ih=>
  rcases adK.1 h with e|h
  ·subst e;exact adt
  ·have ih:=ih h;cases x<;>first|exact ady _ ih|exact ih
theorem mem_reads {ops:Array Oper} {o:Oper} {t:Nat} (h:t∈kI o.op.operands.toList):t∈f_ ops o:=by
 unfold f_;split
 ·exact h
 ·split
  ·exact ady _ h
  ·exact h
section
variable {B:Bs} {ops:Array Oper} {o:Oper} {s:TS} {a:Act} (hs:∀t∈f_ ops o,Rv B (nth .bU s.fr t) (a.tmps.getD t undef))
include hs
theorem zy:ja B s o.op a.eval:=λx hx=>by
 cases x with
 |tmp t=>exact hs t (mem_reads (CO hx))
 |const v=>exact BX B v
 |func f=>exact dG rfl rfl rfl rfl ⟨#[],#[],rfl,rfl,rfl,rfl⟩
 |global g=>trivial
theorem rL {b:Bool} (hw:ig ops o s b):Region.wanted o (yielded ops a.tmps)=b:=by
 unfold ig at hw;unfold Region.wanted;cases hg:o.guard with
 |none=>rw[hg] at hw;exact hw.symm
 |some jw=>
  obtain⟨j,want⟩:=jw;rw[hg] at hw;obtain⟨t,ht,hw⟩:=hw;have hm:t∈f_ ops o:=by
   unfold f_;rw[hg];dsimp only;rw[ht];exact adt
  have h1:=hs t hm;have yld:∀v,a.tmps[t]? =some v->yielded ops a.tmps j=(match v with| .bool b=>some b|_=>none):=λv hv=>by
   unfold yielded;rw[ht,Option.bind_some,hv];cases v<;>rfl
  show(yielded ops a.tmps j==some want)=b;rcases hw with⟨c,h2,h3⟩|⟨h2,h3⟩
  ·rw[h2] at h1;have hv:=Sk h1;rw[yld _ (yF hv),h3];cases(c:Bool)<;>cases want<;>rfl
  ·rw[h2] at h1;have h1:a.tmps.getD t undef=undef:=h1;have:yielded ops a.tmps j=none:=by
    cases hx:a.tmps[t]? with
    |none=>unfold yielded;rw[ht,Option.bind_some,hx]
    |some v=>
     rw[yld v hx];rw[adD,hx] at h1;have h1:v=undef:=h1;rw[h1];rfl
   rw[this,h3];rfl
end
structure It where
 x:Dr
 s:TS
 tv:TV
 j:Option Nat
 l:List Nat
 es:List Ty
 tb:TB
 m:Nat->TV
def UG (T:CT) (y:It):Prop:=∀(X:Fx) (B:Bs) (ρ:Operand->Value),bw X B->ja B y.s y.x.o.op ρ->ll y.s.hp B->DR T y.s y.x.o.op B->∃r,(execOp ρ y.x.o).run T.P B.w= .ok (.value r) B.w/\Rv B y.tv r
def YP (T:CT) (y:It):Prop:=y.tv=y.m (y.s.hp.length+y.es.length)/\(y.m=TV.r\/(y.m=λj=>TV.p j [])\/y.m=TV.m)/\(∀j∈y.l,∃x∈y.x.o.op.operands.toList,j∈ids (dn y.s x))/\(∀e∈y.es,1<=e.cells)/\
 ∀(X:Fx) (B:Bs) (ρ:Operand->Value),bw X B->ja B y.s y.x.o.op ρ->m9 y.s.hp B y.l->∃run:Sem Value,(execOp ρ y.x.o).run T.P B.w=((do pure (.value (<-run)):Sem Next)).run T.P B.w/\lp T.P B run (tm y.es y.s.hp.length) y.tb y.m
def Step (T:CT) (ops:Array Oper) (y:It) (s':TS):Prop:=
 (ig ops y.x.o y.s false/\y.tv= .nI/\y.j=none/\oQ y.x.o.dst .nI y.s=some s')\/
 (ig ops y.x.o y.s true/\y.x.c<=1/\UG T y/\ma T y.s y.x.o.op/\y.j=none/\oQ y.x.o.dst y.tv y.s=some s')\/
 (ig ops y.x.o y.s true/\y.x.c=2/\YP T y/\y.j=some (y.s.hp.length+y.es.length)/\∃H',freeze y.s.hp y.l=some H'/\oQ y.x.o.dst y.tv ⟨y.s.fr,(H'++ed y.es)++[⟨1,y.tb⟩]⟩=some s')
theorem Hk {P:Program} {op:Op} (h:cls P op<=2):lone op=true:=by
 cases op<;>first|rfl|skip
 rename_i c;unfold cls at h;dsimp only at h;unfold lone;dsimp only;split
 ·rename_i x hx;rw[hx] at h;exact absurd h (show¬3<=2 by decide)
 ·rfl
theorem Pa {T:CT} (hd:20<=T.P.depth) {ρ:Type} {call:eZ ρ} {ops:Array Oper} {x:Dr} {s:TS} {K:TS->R ρ} {y:ρ} (hx:x.c=cls T.P x.o.op) (hc:x.c<=2) {go:TS->(TV->TS->R ρ)->R ρ} (h:rH ops x.o s (λs F=>bif Nat.ble x.c 2 then(bif ok0 T s x.o.op then tf T call s x.o.op F else none) else go s F) (oQ x.o.dst) K=some y):
 ∃(t:It) (s':TS),t.x=x/\t.s=s/\Step T ops t s'/\K s'=some y:=by
 rcases zL h with⟨hw,h⟩|⟨hw,s2,h1,h2⟩
 ·rw[Nat.ble_eq_true_of_le hc,cond_true] at h;obtain⟨h0,h⟩:=aQ h;rw[HT (Hk (by rw[<-hx];exact hc)) call (λ_ _ _ _=>none)] at h;cases hp:tf T (λ_ _ _ _=>none) s x.o.op dA with
  |none=>rw[hp] at h;cases h
  |some p=>
   obtain⟨tv,s1⟩:=p;rw[hp] at h
   replace h:(match oQ x.o.dst tv s1 with|some s=>K s|none=>none)=some y:=h
   split at h;rotate_left
   ·cases h
   rename_i s2 ui;have hK:=h;clear h;rcases NU (o:=x.o) hd (Hk (by rw[<-hx];exact hc)) (by rw[<-hx];exact hc) hp with⟨⟨l,H',g1,g2,g3,g4,g5⟩,jq⟩|⟨⟨l,es,H',tb,mk,g1,g2,g3,g4,g5,g6,g7⟩,jq⟩
   ·have:=g3 h0;subst this;have g1:some s.hp=some H':=g1;cases g1;subst g2;exact⟨⟨x,s,tv,none,[],[], .any .bU, .r⟩,s2,rfl,rfl, .inr (.inl ⟨hw,by rw[<-hx] at jq;exact jq,λX B ρ I hO L hS=>g5 X B ρ I hO L (λj hj=>by cases hj) hS,g4,rfl,ui⟩),hK⟩
   ·subst g4;exact⟨⟨x,s,tv,some (s.hp.length+es.length),l,es,tb,mk⟩,s2,rfl,rfl, .inr (.inr ⟨hw,by rw[<-hx] at jq;exact jq,⟨g6,g5,g2,g3,g7⟩,rfl,H',g1,ui⟩),hK⟩
 ·exact⟨⟨x,s, .nI,none,[],[], .any .bU, .r⟩,s2,rfl,rfl, .inl ⟨hw,rfl,rfl,h1⟩,h2⟩
end
noncomputable section
variable [pf]
theorem Xn {ops:Array Oper} (hb:kQ ops.toList 0=true) {a:Nat}:∀(i:Nat) (o:Oper),ops[i]? =some o->bit (Ka ops i) a=true->a<i:=λi=>by
 induction i using Nat.strongRecOn with
 |_ i ih=>
  intro o ho h;obtain⟨e,_,_,h3,h4⟩:=Ho hb ho h;rcases h4 with h4|h4
  ·omega
  ·have hi:=(ae3.1 ho).1;have:=ih e.on h3 ops[e.on] (adX ade) h4;omega
structure Kj (ops:Array Oper) (B:Bs) (a:Act) (pend:List It) (y:It):Prop where
 sl:∀t∈y.x.r,Rv B (nth .bU y.s.fr t) (a.tmps.getD t undef)\/∃z∈pend,bit y.x.m z.x.i=true/\z.x.o.dst=some t/\nth .bU y.s.fr t=z.tv
 sd:∀z∈pend,∀q∈y.x.r,z.x.o.dst=some q->bit y.x.m z.x.i=true->nth .bU y.s.fr q=z.tv
 hZ:ll y.s.hp B
 hl:y.s.hp.length<=B.H.length
 spot:ig ops y.x.o y.s true->y.x.c=1->∀u,spot y.x.o.op=some u->∀j,BI (dn y.s u)=some j->(nth .bu y.s.hp j).st<=2/\((B.e j).st=7\/((B.e j).st<=2/\(B.e j).b=(nth .bu y.s.hp j).b))
 fz:y.j≠none->∀j∈y.l,(nth .bu y.s.hp j).st<=2/\((B.e j).st=7\/((B.e j).st=0/\(B.e j).b=(nth .bu y.s.hp j).b))
 own:y.j≠none->tm y.es y.s.hp.length B
def gm (pend:List It):List Nat:=pend.filterMap (·.j)
theorem d_ {pend:List It} {j:Nat}:j∈gm pend↔∃y∈pend,y.j=some j:=List.mem_filterMap
structure iL (T:CT) (ops:Array Oper) (X:Fx) (pend:List It) (rest:List Dr) (md:List (Nat×Nat)) (s:TS) (B:Bs) (a:Act) (w:World):Prop where
 bk:kQ ops.toList 0=true
 I:bw X B
 w:B.w=w
 df:a.defers=pf.ds
 n:s.fr.length<=a.tmps.size
 lJ:Uz B s.hp (gm pend)
 bn:∀j∈gm pend,B.b j=none
 sl:∀t,Rv B (nth .bU s.fr t) (a.tmps.getD t undef)\/∃z∈pend,z.x.o.dst=some t/\nth .bU s.fr t=z.tv
 sd:∀z∈pend,∀q,z.x.o.dst=some q->nth .bU s.fr q=z.tv
 it:∀y∈pend,Kj ops B a pend y
 st:∀y∈pend,y.x.c<=2/\∃s',Step T ops y s'
 made:∀y∈pend,∀j,y.j=some j->∃st,nth .bu s.hp j=⟨st,y.tb⟩/\st<=2
 YI:∀y∈pend,∀j,y.j=some j->∀z∈pend,(nth .bu z.s.hp j).st≠7->(nth .bu z.s.hp j).b=y.tb
 fzs:∀z∈pend,z.j≠none->∀j∈z.l,(nth .bu s.hp j).st=0
 inj:∀y∈pend,∀z∈pend,∀j,y.j=some j->z.j=some j->y.x.i=z.x.i
 lk:∀j∈gm pend,∀x∈X.lk,x.1≠j
 md:∀y∈pend,(∀j,y.j=some j->qJ y.x.i md=some j)/\(ig ops y.x.o y.s true->y.x.c=1->∀u,spot y.x.o.op=some u->∀j,BI (dn y.s u)=some j->qJ y.x.i md=some j)
 ah:∀y∈pend,∀x∈rest,BN y.x x
 pp:∀y∈pend,∀z∈pend,y.x.i≠z.x.i->BN y.x z.x\/BN z.x y.x
 same:∀y∈pend,∀z∈pend,y.x.i=z.x.i->y=z
 rp:∀x y,yi x y rest->BN x y
 ok:∀x,(x∈rest\/∃y∈pend,y.x=x)->ops[x.i]? =some x.o/\x.c=cls T.P x.o.op/\x.m=Ka ops x.i/\x.r=f_ ops x.o
mutual
theorem Rp.refs {B:Bs}:∀(x:TV) (c:Nat->Value) (o:Nat),Rp B x c o->∀j∈ids x,(B.e j).st≠7
 | .r j,_,_,h,i,hi=>by rw[adF.1 hi];exact h.1
 | .rn j n,_,_,h,i,hi=>by rw[adF.1 hi];exact h.1
 | .rs j m n,_,_,h,i,hi=>by rw[adF.1 hi];exact h.1
 | .pr x y,_,_,h,i,hi=>(adC.1 hi).elim (Rp.refs x _ _ h.1 i) (Rp.refs y _ _ h.2 i)
 | .bU,_,_,_,_,hi| .nI,_,_,_,_,hi| .nl,_,_,_,_,hi| .v _ _,_,_,_,_,hi| .p _ _,_,_,_,_,hi| .q _ _,_,_,_,_,hi| .un,_,_,_,_,hi| .f _ _ _ _,_,_,_,_,hi| .cl _ _,_,_,_,_,hi| .nz _,_,_,_,_,hi| .sa _ _ _,_,_,_,_,hi=>by cases hi
 | .tp _,_,_,h,_,_=>h.elim
theorem Rl.refs {B:Bs}:∀(x:TV) (l:List Value),Rl B x l->∀j∈ids x,(B.e j).st≠7
 | .un,_,_,_,hi=>by cases hi
 | .pr x y,l,⟨v,r,_,h2,h3⟩,i,hi=>(adC.1 hi).elim (λhi=>by
    cases x<;>first|exact Rp.refs _ _ _ h2.2 i ‹_›|exact h2.elim|cases hi) (Rl.refs y r h3 i)
 | .bU,_,h,_,_| .nI,_,h,_,_| .nl,_,h,_,_| .v _ _,_,h,_,_| .r _,_,h,_,_| .rn _ _,_,h,_,_| .rs _ _ _,_,h,_,_| .p _ _,_,h,_,_| .q _ _,_,h,_,_| .tp _,_,h,_,_| .f _ _ _ _,_,h,_,_| .cl _ _,_,h,_,_| .nz _,_,h,_,_| .sa _ _ _,_,h,_,_=>h.elim
end
theorem Rv.refs {B:Bs} {x:TV} {v:Value} (h:Rv B x v):∀j∈ids x,(B.e j).st≠7:=by
 by_cases e:∃y,x= .tp y
 ·obtain⟨y,rfl⟩:=e;obtain⟨vs,_,h2⟩:=h;exact Rl.refs y _ h2
 ·have e:∀y,x≠ .tp y:=λy h=>e ⟨y,h⟩
  rw[lx e] at h;intro j hj;cases x<;>first|exact Rp.refs _ _ _ h.2 j hj|exact absurd rfl (e _)|cases hj
theorem P9 {B:Bs} {x:TV} {v:Value} (h:Rv B x v) {j:Nat} (hj:BI x=some j):(B.e j).st≠7:=by
 cases x<;>cases hj
 ·exact(d7 rfl rfl h).2.1
 ·exact(d7 rfl rfl h).2.1
 ·exact(d7 rfl rfl h).2.1
 ·exact(d7 rfl rfl h).2.1
 ·exact(d7 rfl rfl h).2.1
theorem XH {X:Fx} {B:Bs} (I:bw X B):bo B ⟨B.F0,B.H++[.bu],B.bs++[none],B.w⟩/\bw X ⟨B.F0,B.H++[.bu],B.bs++[none],B.w⟩:=by
 have eN:nth .bu (B.H++[TE.bu]) B.H.length= .bu:=wJ _ _ _;refine I.step B.H.length (B':=⟨B.F0,B.H++[.bu],B.bs++[none],B.w⟩) rfl ?_ ?_ (λj hj=>(uZ rfl I.len j hj).imp .inl id) (λx hx=>Nat.ne_of_lt (I.lk x hx).1) (λb _ _=>rfl) (adw _) (dY.refl _) (λb s h=> ?_) (λh=>absurd (by rw[B_];rfl) h) (λ_ h=> ?_)
 ·show(B.bs++[none]).length=(B.H++[_]).length;rw[eB,eB,I.len]
 ·show _<=(B.H++[_]).length;rw[eB];omega
 ·have:nth none (B.bs++[none]) B.H.length=none:=iT _ _ _ I.len;have h:nth none (B.bs++[none]) B.H.length=some (b,s):=h;rw[this] at h;cases h
 ·have h:(nth .bu (B.H++[TE.bu]) B.H.length).st<=2:=h;rw[eN] at h;exact absurd h (show¬7<=2 by decide)
theorem NG {X:Fx} {B:Bs} {H:List TE} {qs:List Nat} (I:bw X B) (G:Uz B H qs) (hq:∀j∈qs,j<H.length) {l:List Nat} {H':List TE} (hf:freeze H l=some H') {es:List Ty} (he:∀e∈es,1<=e.cells) (tb:TB):
 ∃B',bo B B'/\B'.w=B.w/\bw X B'/\Uz B' ((H'++ed es)++[⟨1,tb⟩]) ((H.length+es.length)::qs)/\B'.b (H.length+es.length)=none/\tm es H.length B'/\(∀j∈l,(B'.e j).st=7\/((B'.e j).st=0/\(B'.e j).b=(nth .bu H j).b))/\
  ∀j,j<B.H.length->(B'.e j).b=(B.e j).b/\((B'.e j).st=(B.e j).st\/((B.e j).st=1/\(B'.e j).st=0))/\B'.b j=B.b j:=by
 obtain⟨F,fz⟩:=gK hf;obtain⟨r1,r2⟩:=jh qs H';have F1:fL B.H (oS qs H'):=by
  refine⟨by rw[r1,F.len,G.len],λj=> ?_,λj=> ?_⟩
  ·rw[r2 j]
   by_cases hj:j∈qs
   ·rw[adp hj,show nth .bu B.H j= .bu from G.q j hj]
   ·rw[adq hj,F.b j,show nth .bu B.H j=_ from G.e j hj]
  ·rw[r2 j]
   by_cases hj:j∈qs
   ·rw[adp hj,show nth .bu B.H j= .bu from G.q j hj];exact .inl rfl
   ·rw[adq hj,show nth .bu B.H j=_ from G.e j hj];exact F.st j
 have I1:=I.vK F1;have L1:=F1.wq (B:=B);obtain⟨B2,o1,o2,o3,o4,o5,o6⟩:=AT es I1 he;have l2:B2.H.length=H.length+es.length:=by
  rw[o1,ado,ed,ae0];show(oS qs H').length+_=_;rw[r1,F.len]
 have l1:(⟨B.F0,oS qs H',B.bs,B.w⟩:Bs).H.length=H.length:=by show(oS qs H').length=_;rw[r1,F.len]
 obtain⟨L3,I3⟩:=XH o4;have e3:∀j,j<B2.H.length->nth .bu (B2.H++[TE.bu]) j=B2.e j/\nth none (B2.bs++[none]) j=B2.b j:=λj hj=>uZ rfl o4.len j ade
 have e1:∀j,j<H.length->nth .bu (B2.H++[TE.bu]) j=nth .bu (oS qs H') j/\nth none (B2.bs++[none]) j=B.b j:=λj hj=>by
  obtain⟨a1,a2⟩:=e3 j (by rw[l2];omega);obtain⟨b1,b2⟩:=o5 j (by rw[l1];exact hj);exact⟨a1.trans b1,a2.trans b2⟩
 refine⟨_,L1.trans (o3.trans L3),o2,I3,⟨?_,λj hj=> ?_,λj hj=> ?_⟩,?_,λi e hie=> ?_,λj hj=> ?_,λj hj=> ?_⟩
 ·show(B2.H++[_]).length=_;rw[eB,eB,ado,ed,ae0,l2,F.len]
 ·show nth .bu (B2.H++[TE.bu]) j= .bu;rcases adK.1 hj with rfl|hj
  ·exact iT _ _ _ l2
  ·rw[(e1 j (hq j hj)).1,r2 j,adp hj]
 ·show nth .bu (B2.H++[TE.bu]) j=nth .bu ((H'++ed es)++[⟨1,tb⟩]) j;have hj1:j≠H.length+es.length:=λh=>hj (h▸adt)
  have K5:j∉qs:=λh=>hj (ady _ h)
  have lR:(H'++ed es).length=H.length+es.length:=by rw[ado,ed,ae0,F.len]
  by_cases iJ:j<H.length+es.length
  ·rw[dF,dF,adp (by rw[l2];exact iJ),adp (by rw[lR];exact iJ),o1];show nth .bu (oS qs H'++ed es) j=_;rw[dF,dF,r1]
   by_cases h3:j<H'.length
   ·rw[adp h3,adp h3,r2 j,adq K5]
   ·rw[adq h3,adq h3]
  ·rw[dw _ _ _ (by rw[eB,l2];omega),dw _ _ _ (by rw[eB,lR];omega)]
 ·exact iT _ _ _ (by rw[o4.len,l2])
 ·have:=(o6 i e hie).mono L3;rw[l1] at this;exact this
 ·have iJ:j<H.length:=by
   have h0:=fz j hj;rw[<-F.len];apply aeg;intro h';rw[dw _ _ _ h'] at h0;cases h0
  show(nth .bu (B2.H++[TE.bu]) j).st=7\/((nth .bu (B2.H++[TE.bu]) j).st=0/\(nth .bu (B2.H++[TE.bu]) j).b=_);rw[(e1 j iJ).1,r2 j]
  by_cases DL:j∈qs
  ·rw[adp DL];exact .inl rfl
  ·rw[adq DL];exact .inr ⟨fz j hj,F.b j⟩
 ·obtain⟨a1,a2⟩:=e1 j (by rw[<-G.len];exact hj);show(nth .bu (B2.H++[TE.bu]) j).b=_/\((nth .bu (B2.H++[TE.bu]) j).st=_\/(_/\(nth .bu (B2.H++[TE.bu]) j).st=0))/\nth none (B2.bs++[none]) j=_;rw[a1,a2];exact⟨F1.b j,F1.st j,rfl⟩
end
noncomputable section
variable [pf]
theorem Ik {ops:Array Oper} {o:Oper} {s:TS} (h1:ig ops o s true) (h2:ig ops o s false):False:=by
 unfold ig at h1 h2;cases hg:o.guard with
 |none=>rw[hg] at h2;cases h2
 |some jw=>
  obtain⟨j,want⟩:=jw;rw[hg] at h1 h2;obtain⟨t,ht,h1⟩:=h1;obtain⟨t',ht',h2⟩:=h2;rw[ht] at ht';cases ht';rcases h1 with⟨c,a1,a2⟩|⟨_,a2⟩;rotate_left
  ·cases a2
  rcases h2 with⟨c',b1,b2⟩|⟨b1,_⟩
  ·rw[a1] at b1;cases b1;rw[<-a2] at b2;cases b2
  ·rw[a1] at b1;cases b1
theorem r7 {d:Option Nat} {tv:TV} {s s':TS} (h:oQ d tv s=some s'):s'.hp=s.hp/\s'.fr.length=s.fr.length/\(∀t,d≠some t->nth .bU s'.fr t=nth .bU s.fr t)/\∀t,d=some t->nth .bU s'.fr t=tv:=by
 cases d with
 |none=>
  have h:some s=some s':=h;cases h;exact⟨rfl,rfl,λ_ _=>rfl,λ_ h=>by cases h⟩
 |some d=>
  obtain⟨h1,h2⟩:=aQ (show(bif Nat.ble (Nat.succ d) s.fr.length then some (⟨setAt tv s.fr d,s.hp⟩:TS) else none)=some s' from h);cases h2;have hd:=adv h1;refine⟨rfl,d5 _ _ _,λt ht=> ?_,λt ht=> ?_⟩
  ·show nth .bU (setAt tv s.fr d) t=_;rw[cx,adq (λh=>ht (by rw[h.1]))]
  ·cases ht;show nth .bU (setAt tv s.fr d) d=_;rw[cx,adp ⟨rfl,hd⟩]
structure Calm (B B':Bs):Prop where
 L:bo B B'
 w:B'.w=B.w
 len:B.H.length<=B'.H.length
 e:∀j,j<B.H.length->(B'.e j).b=(B.e j).b/\((B'.e j).st=(B.e j).st\/((B.e j).st=1/\(B'.e j).st=0))/\B'.b j=B.b j
theorem Calm.refl (B:Bs):Calm B B:=⟨bo.refl B,rfl,adw _,λ_ _=>⟨rfl, .inl rfl,rfl⟩⟩
theorem Kj.calm {ops:Array Oper} {B B':Bs} {a:Act} {pend pend':List It} {y:It} (h:Kj ops B a pend y) (c:Calm B B') (hp:∀z∈pend,z∈pend') (hsd:∀z∈pend',z∈pend\/bit y.x.m z.x.i=false):Kj ops B' a pend' y:=by
 have xM:∀j,j<y.s.hp.length->(B.e j).st=7->(B'.e j).st=7:=λj hj h7=>by
  rcases(c.e j (aef hj h.hl)).2.1 with e|⟨e,_⟩
  ·rw[e];exact h7
  ·omega
 refine⟨λt ht=>(h.sl t ht).imp (λh=>h.mono c.L) λ⟨z,h1,h2⟩=>⟨z,hp z h1,h2⟩,λz hz q hq hd hb=>(hsd z hz).elim (λhz=>h.sd z hz q hq hd hb) (λh=>by rw[h] at hb;cases hb),λj h1 h2=> ?_,aem h.hl c.len,λh1 h2 u hu j hj=> ?_,λh1 j hj=> ?_,λh1 i e hi=>(h.own h1 i e hi).mono c.L⟩
 ·have hj:j<y.s.hp.length:=by
   apply aeg;intro h';rw[dw _ _ _ h'] at h1;exact h1 rfl
  rw[(c.e j (aef hj h.hl)).1];exact h.hZ j h1 λh7=>h2 (xM j hj h7)
 ·obtain⟨k1,k2⟩:=h.spot h1 h2 u hu j hj;have k0:j<y.s.hp.length:=by
   apply aeg;intro h';rw[dw _ _ _ h'] at k1;exact absurd k1 (show¬7<=2 by decide)
  refine⟨k1,k2.imp (xM j k0) λ⟨k2,k3⟩=> ?_⟩;obtain⟨g1,g2,_⟩:=c.e j (aef k0 h.hl);exact⟨by rcases g2 with g2|⟨_,g2⟩<;>omega,g1.trans k3⟩
 ·obtain⟨k1,k2⟩:=h.fz h1 j hj;have k0:j<y.s.hp.length:=by
   apply aeg;intro h';rw[dw _ _ _ h'] at k1;exact absurd k1 (show¬7<=2 by decide)
  refine⟨k1,k2.imp (xM j k0) λ⟨k2,k3⟩=> ?_⟩;obtain⟨g1,g2,_⟩:=c.e j (aef k0 h.hl);exact⟨by rcases g2 with g2|⟨g2,_⟩<;>omega,g1.trans k3⟩
section
variable {T:CT} {ops:Array Oper} {X:Fx} {pend:List It} {rest:List Dr} {md:List (Nat×Nat)} {B:Bs} {a:Act} {w:World} {t:It}
theorem iL.join (D:iL T ops X pend (t.x::rest) md t.s B a w) {s':TS} (St:Step T ops t s') (hc:t.x.c<=2) {B':Bs} (c:Calm B B') (I':bw X B') (BD:s'.fr.length=t.s.fr.length) (EO:Uz B' s'.hp (gm (t::pend))) (hbn:∀j∈gm (t::pend),B'.b j=none)
 (Ym:∀q,t.x.o.dst≠some q->nth .bU s'.fr q=nth .bU t.s.fr q) (WT:∀q,t.x.o.dst=some q->nth .bU s'.fr q=t.tv)
 (X2:Kj ops B' a (t::pend) t) (No:∀y∈t::pend,∀j,y.j=some j->∃st,nth .bu s'.hp j=⟨st,y.tb⟩/\st<=2) (a7T:∀z∈t::pend,z.j≠none->∀j∈z.l,(nth .bu s'.hp j).st=0) (Rw:∀j,t.j=some j->B.H.length<=j)
 (hmd:(∀j,t.j=some j->qJ t.x.i (fJ t.x t.s s'++md)=some j)/\(ig ops t.x.o t.s true->t.x.c=1->∀u,spot t.x.o.op=some u->∀j,BI (dn t.s u)=some j->qJ t.x.i (fJ t.x t.s s'++md)=some j)):
 iL T ops X (t::pend) rest (fJ t.x t.s s'++md) s' B' a w:=by
 have old:∀{y},y∈pend->BN y.x t.x:=λhy=>D.ah _ hy _ adt
 have ne:∀{y},y∈pend->y.x.i≠t.x.i:=λhy=>(old hy).ne
 have lt:∀{y j},y∈pend->y.j=some j->j<B.H.length:=λ{y j} hy hj=>by
  obtain⟨st,h1,h2⟩:=D.made y hy j hj;rw[D.lJ.len];apply aeg;intro h';rw[dw _ _ _ h'] at h1;have h3:7=st:=congrArg TE.st h1;omega
 have mdo:∀{i},i≠t.x.i->qJ i (fJ t.x t.s s'++md)=qJ i md:=λ{i} hi=>by
  have key:∀{l:List (Nat×Nat)},(∀p∈l,p.1=t.x.i)->qJ i (l++md)=qJ i md:=λ{l}=>by
   induction l with
   |nil=>intro _;rfl
   |cons p l ih=>
    intro h;obtain⟨p1,p2⟩:=p;have e1:p1=t.x.i:=h _ adt;show(bif Nat.beq p1 i then some p2 else qJ i (l++md))=_;have:Nat.beq p1 i=false:=by
     cases hb:Nat.beq p1 i with
     |false=>rfl
     |true=>exact absurd ((adu hb).symm.trans e1) hi
    rw[this];exact ih λq hq=>h q (ady _ hq)
  refine key λp hp=> ?_
  unfold fJ at hp;split at hp
  ·split at hp
   ·split at hp
    ·rw[adF.1 hp]
    ·cases hp
   ·cases hp
  ·split at hp
   ·split at hp
    ·rw[adF.1 hp]
    ·cases hp
   ·cases hp
  ·cases hp
 refine⟨D.bk,I',c.w.trans D.w,D.df,by rw[BD];exact D.n,EO,hbn,λq=> ?_,λz hz q hq=> ?_,λy hy=> ?_,λy hy=> ?_,No,λy hy j tB z hz h7=> ?_,a7T,λy hy z hz j tB DN=> ?_,λj hj x hx=> ?_,λy hy=> ?_,λy hy x hx=> ?_,λy hy z hz qd=> ?_,λy hy z hz he=> ?_,λx y h=>D.rp x y (.next _ h),λx hx=> ?_⟩
 ·by_cases hq:t.x.o.dst=some q
  ·exact .inr ⟨t,adt,hq,WT q hq⟩
  ·rw[Ym q hq];exact(D.sl q).imp (λh=>h.mono c.L) λ⟨z,h1,h2⟩=>⟨z,ady _ h1,h2⟩
 ·rcases adK.1 hz with e|hz
  ·rw[e] at hq⊢;exact WT q hq
  ·rw[Ym q ((old hz).s1 q hq).1];exact D.sd z hz q hq
 ·rcases adK.1 hy with rfl|hy
  ·exact X2
  ·exact(D.it y hy).calm c (λz hz=>ady _ hz) λz hz=>(adK.1 hz).elim (λe=> .inr (by rw[e];exact(old hy).no)) .inl
 ·rcases adK.1 hy with rfl|hy
  ·exact⟨hc,s',St⟩
  ·exact D.st y hy
 ·have lz:j<z.s.hp.length:=by
   apply aeg;intro h';rw[dw _ _ _ h'] at h7;exact h7 rfl
  rcases adK.1 hy with e|hy'
  ·have h1:=Rw j (e▸tB);rcases adK.1 hz with e'|hz'
   ·rw[e'] at lz;have:=D.lJ.len;omega
   ·have:=(D.it z hz').hl;omega
  ·rcases adK.1 hz with e'|hz'
   ·rw[e'];obtain⟨st,k1,_⟩:=D.made y hy' j tB;rw[k1]
   ·exact D.YI y hy' j tB z hz' h7
 ·rcases adK.1 hy with e|hy'
  ·rcases adK.1 hz with e'|hz'
   ·rw[e,e']
   ·have:=Rw j (e▸tB);have:=lt hz' DN;omega
  ·rcases adK.1 hz with e'|hz'
   ·have:=Rw j (e'▸DN);have:=lt hy' tB;omega
   ·exact D.inj y hy' z hz' j tB DN
 ·obtain⟨y,hy,tB⟩:=d_.1 hj;rcases adK.1 hy with rfl|hy
  ·have:=Rw j tB;have:=(D.I.lk x hx).1;omega
  ·exact D.lk j (d_.2 ⟨y,hy,tB⟩) x hx
 ·rcases adK.1 hy with rfl|hy
  ·exact hmd
  ·rw[mdo (ne hy)];exact D.md y hy
 ·rcases adK.1 hy with rfl|hy
  ·exact D.rp _ _ (.here hx)
  ·exact D.ah y hy x (ady _ hx)
 ·rcases adK.1 hy with e|hy'
  ·rcases adK.1 hz with e'|hz'
   ·exact absurd (by rw[e,e']) qd
   ·rw[e];exact .inr (old hz')
  ·rcases adK.1 hz with e'|hz'
   ·rw[e'];exact .inl (old hy')
   ·exact D.pp y hy' z hz' qd
 ·rcases adK.1 hy with e|hy'
  ·rcases adK.1 hz with e'|hz'
   ·rw[e,e']
   ·exact absurd (by rw[<-he,e]) (ne hz')
  ·rcases adK.1 hz with e'|hz'
   ·exact absurd (by rw[he,e']) (ne hy')
   ·exact D.same y hy' z hz' he
 ·rcases hx with hx|⟨y,hy,rfl⟩
  ·exact D.ok x (.inl (ady _ hx))
  ·rcases adK.1 hy with rfl|hy
   ·exact D.ok _ (.inl adt)
   ·exact D.ok _ (.inr ⟨y,hy,rfl⟩)
end
end
noncomputable section
variable [pf]
theorem yJ {i j:Nat} {l:List (Nat×Nat)}:qJ i ([(i,j)]++l)=some j:=by
 show(bif Nat.beq i i then some j else _)=_;rw[Nat.beq_refl];rfl
section
variable {T:CT} {ops:Array Oper} {X:Fx} {pend:List It} {rest:List Dr} {md:List (Nat×Nat)} {B:Bs} {a:Act} {w:World} {t:It}
theorem iL.UI (D:iL T ops X pend (t.x::rest) md t.s B a w) {s':TS} (St:Step T ops t s') (hc:t.x.c<=2) (h2:t.x.c=2->∃d,t.x.o.dst=some d):∃B',Calm B B'/\iL T ops X (t::pend) rest (fJ t.x t.s s'++md) s' B' a w:=by
 have old:∀{y},y∈pend->BN y.x t.x:=λhy=>D.ah _ hy _ adt
 have nsl:∀{B'},Calm B B'->∀q∈t.x.r,Rv B' (nth .bU t.s.fr q) (a.tmps.getD q undef)\/∃z∈t::pend,bit t.x.m z.x.i=true/\z.x.o.dst=some q/\nth .bU t.s.fr q=z.tv:=λ{B'} c q hq=>by
  rcases D.sl q with h|⟨z,hz,e1,e2⟩
  ·exact .inl (h.mono c.L)
  ·refine .inr ⟨z,ady _ hz,?_,e1,e2⟩;exact(((old hz).s1 q e1).2 hq).resolve_right (by rw[(old hz).no];exactλh=>by cases h)
 have self:bit t.x.m t.x.i=false:=by
  cases hb:bit t.x.m t.x.i with
  |false=>rfl
  |true=>
   obtain⟨k1,_,k3,_⟩:=D.ok t.x (.inl adt);rw[k3] at hb;exact absurd (Xn D.bk _ _ k1 hb) (Nat.lt_irrefl _)
 have nsd:∀z∈t::pend,∀q∈t.x.r,z.x.o.dst=some q->bit t.x.m z.x.i=true->nth .bU t.s.fr q=z.tv:=λz hz q _ hd hb=>by
  rcases adK.1 hz with e|hz
  ·rw[e,self] at hb;cases hb
  ·exact D.sd z hz q hd
 have eq:∀j,(B.e j).st≠7->B.e j=nth .bu t.s.hp j:=λj h7=>D.lJ.e j λhj=>h7 (by rw[D.lJ.q j hj];rfl)
 have ltH:∀{H:List TE} {j:Nat},(nth .bu H j).st≠7->j<H.length:=λ{H j} h=>by
  apply aeg;intro h';rw[dw _ _ _ h'] at h;exact h rfl
 have calm0:t.j=none->s'.hp=t.s.hp->s'.fr.length=t.s.fr.length->(∀q,t.x.o.dst≠some q->nth .bU s'.fr q=nth .bU t.s.fr q)->(∀q,t.x.o.dst=some q->nth .bU s'.fr q=t.tv)->(ig ops t.x.o t.s true->ma T t.s t.x.o.op)->∃B',Calm B B'/\iL T ops X (t::pend) rest (fJ t.x t.s s'++md) s' B' a w:=λhj hh oO Ym WT w9=>by
  have hp:gm (t::pend)=gm pend:=by unfold gm;rw[List.filterMap_cons,hj]
  have cl:=(D.ok t.x (.inl adt)).2.1;refine⟨B,Calm.refl B,D.join St hc (Calm.refl B) D.I oO (by rw[hp,hh];exact D.lJ) (by rw[hp];exact D.bn) Ym WT ⟨nsl (Calm.refl B),nsd,λj h1 h3=> ?_,by rw[D.lJ.len];exact adw _,λhw h1 u hu j PR=> ?_,λh=>absurd hj h,λh=>absurd hj h⟩ (λy hy j tB=> ?_) (λz hz DN j nq=> ?_) (λj h=>(by rw[hj] at h;cases h)) ⟨λj h=>(by rw[hj] at h;cases h),λhw h1 u hu j PR=> ?_⟩⟩
  ·rw[eq j h3];exact cu _
  ·have:=w9 hw (by rw[<-cl];exact h1) u hu j PR;refine⟨this,?_⟩
   by_cases h7:(B.e j).st=7
   ·exact .inl h7
   ·rw[eq j h7];exact .inr ⟨this,rfl⟩
  ·rcases adK.1 hy with e|hy'
   ·rw[e,hj] at tB;cases tB
   ·rw[hh];exact D.made y hy' j tB
  ·rcases adK.1 hz with e|hz'
   ·rw[e] at DN;exact absurd hj DN
   ·rw[hh];exact D.fzs z hz' DN j nq
  ·have:fJ t.x t.s s'=[(t.x.i,j)]:=by
    unfold fJ;rw[h1,hu];show(match BI (dn t.s u) with|some j=>[(t.x.i,j)]|none=>[])=_;rw[PR]
   rw[this];exact yJ
 rcases id St with⟨hw,htv,hj,ui⟩|⟨hw,h1,_,hl,hj,ui⟩|⟨hw,lh,⟨m1,m2,m3,m4,_⟩,hj,H',hf,ui⟩
 ·obtain⟨p1,p2,p3,p4⟩:=r7 ui;exact calm0 hj p1 p2 p3 (λq hq=>(p4 q hq).trans htv.symm) λh=>(Ik h hw).elim
 ·obtain⟨p1,p2,p3,p4⟩:=r7 ui;exact calm0 hj p1 p2 p3 p4 λ_=>hl
 ·obtain⟨p1,p2,p3,p4⟩:=r7 ui;obtain⟨F,fz⟩:=gK hf;have iJ:∀j∈gm pend,j<t.s.hp.length:=λj Nk=>by
   obtain⟨y,hy,tB⟩:=d_.1 Nk;obtain⟨st,k1,k2⟩:=D.made y hy j tB;exact ltH (by rw[k1];show st≠7;omega)
  obtain⟨B',L,ew,I',lJ,bN,ho,WW,he⟩:=NG D.I D.lJ iJ hf m4 t.tb;have len':B'.H.length=t.s.hp.length+t.es.length+1:=by
   rw[lJ.len,eB,ado,ed,ae0,F.len]
  have c:Calm B B':=⟨L,ew,by rw[len',D.lJ.len];omega,he⟩;have hp:gm (t::pend)=(t.s.hp.length+t.es.length)::gm pend:=by unfold gm;rw[List.filterMap_cons,hj]
  have lR:(H'++ed t.es).length=t.s.hp.length+t.es.length:=by rw[ado,ed,ae0,F.len]
  refine⟨B',c,D.join St hc c I' p2 (by rw[hp,p1];exact lJ) (λj Nk=> ?_) p3 p4 ⟨nsl c,nsd,λj k1 k2=> ?_,by rw[len'];omega,λ_ h1=>ade,λ_ j nq=>⟨?_,WW j nq⟩,λ_=>ho⟩ (λy hy j tB=> ?_) (λz hz DN j nq=> ?_) (λj h=> ?_) ⟨λj h=> ?_,λ_ h1=>ade⟩⟩
  ·rw[hp] at Nk;rcases adK.1 Nk with rfl|Nk
   ·exact bN
   ·rw[(he j (by rw[D.lJ.len];exact iJ j Nk)).2.2];exact D.bn j Nk
  ·have hlj:=ltH k1;obtain⟨g1,g2,_⟩:=he j (by rw[D.lJ.len];exact hlj);rw[g1,eq j (by rcases g2 with g2|⟨g2,_⟩<;>omega)];exact cu _
  ·have:=fz j nq;rcases F.st j with g|⟨g,_⟩<;>omega
  ·rw[p1];show∃st,nth .bu ((H'++ed t.es)++[⟨1,t.tb⟩]) j=_/\_;rcases adK.1 hy with e|hy'
   ·rw[e,hj] at tB;cases tB;exact⟨1,by rw[iT _ _ _ lR,e],by decide⟩
   ·obtain⟨st,k1,k2⟩:=D.made y hy' j tB;have hlj:=ltH (H:=t.s.hp) (j:=j) (by rw[k1];show st≠7;omega);refine⟨(nth .bu H' j).st,?_,?_⟩
    ·rw[dF,adp (by rw[lR];omega),dF,adp (by rw[F.len];exact hlj),Bu (nth .bu H' j),F.b j,k1]
    ·have:=F.st j;rw[k1] at this;rcases this with this|⟨_,this⟩
     ·rw[this];exact k2
     ·rw[this];decide
  ·rw[p1];show(nth TE.bu ((H'++ed t.es)++[(⟨1,t.tb⟩:TE)]) j).st=0;have key:∀j,(nth .bu H' j).st=0->(nth TE.bu ((H'++ed t.es)++[(⟨1,t.tb⟩:TE)]) j).st=0:=λj h0=>by
    have hlj:=ltH (H:=H') (j:=j) (by rw[h0];decide);rw[dF,adp (by rw[lR,<-F.len];omega),dF,adp hlj];exact h0
   rcases adK.1 hz with e|hz'
   ·rw[e] at nq;exact key j (fz j nq)
   ·have h0:=D.fzs z hz' DN j nq;refine key j ?_;rcases F.st j with g|⟨g,_⟩<;>omega
  ·rw[hj] at h;cases h;rw[D.lJ.len];omega
  ·rw[hj] at h;cases h;obtain⟨d,hd⟩:=h2 lh;have:fJ t.x t.s s'=[(t.x.i,t.s.hp.length+t.es.length)]:=by
    unfold fJ;rw[lh,hd];show(match BI (nth .bU s'.fr d) with|some j=>[(t.x.i,j)]|none=>[])=_;rw[p4 d hd,m1];rcases m2 with m2|m2|m2<;>rw[m2]<;>rfl
   rw[this];exact yJ
end
end
noncomputable section
variable [pf]
def p8 (pend:List It) (y:It):List It:=pend.filter λz=> !(Nat.beq z.x.i y.x.i)
theorem dW {pend:List It} {y z:It}:z∈p8 pend y↔z∈pend/\z.x.i≠y.x.i:=by
 unfold p8;rw[List.mem_filter];refine and_congr Iff.rfl ⟨λh e=> ?_,λh=> ?_⟩
 ·rw[e,Nat.beq_refl] at h;cases h
 ·cases hb:Nat.beq z.x.i y.x.i with
  |false=>rfl
  |true=>exact absurd (adu hb) h
section
variable {T:CT} {ops:Array Oper} {X:Fx} {pend:List It} {rest:List Dr} {md:List (Nat×Nat)} {s:TS} {B:Bs} {a:Act} {w:World} {y:It} (D:iL T ops X pend rest md s B a w) (hy:y∈pend) (hr:∀z∈pend,bit y.x.m z.x.i=false)
include D hy hr
theorem iL.reads:∀t∈f_ ops y.x.o,Rv B (nth .bU y.s.fr t) (a.tmps.getD t undef):=λt ht=>by
 rw[<-(D.ok y.x (.inr ⟨y,hy,rfl⟩)).2.2.2] at ht;rcases(D.it y hy).sl t ht with h|⟨z,hz,h,_⟩
 ·exact h
 ·rw[hr z hz] at h;cases h
theorem AY {q:Nat} {r:Value} {d:Option Nat}:(d≠some q->(a.put d r).tmps.getD q undef=a.tmps.getD q undef)/\(d=some q->q<a.tmps.size->(a.put d r).tmps.getD q undef=r):=by
 have _:=D;have _:=hy;have _:=hr;revert d;intro d;cases d with
 |none=>exact⟨λ_=>rfl,λh=>by cases h⟩
 |some d=>
  refine⟨λh=> ?_,λh hl=> ?_⟩
  ·show(a.tmps.setIfInBounds d r).getD q undef=_;rw[jR,adq (λk=>h (by rw[k.1]))]
  ·cases h;show(a.tmps.setIfInBounds q r).getD q undef=_;rw[jR,adp ⟨rfl,hl⟩]
theorem OQ {B':Bs} {q:Nat} {r:Value} {fr:List TV} (hd:y.x.o.dst=some q) (he:nth .bU fr q=y.tv) (hv:Rv B' y.tv r):Rv B' (nth .bU fr q) ((a.put y.x.o.dst r).tmps.getD q undef):=by
 by_cases hq:q<a.tmps.size
 ·rw[he,(AY D hy hr).2 hd hq];exact hv
 ·rw[he,<-D.sd y hy q hd,dw _ _ _ (by have:=D.n;omega)];trivial
theorem iL.done {B':Bs} {r:Value} {w':World} (L:bo B B') (I':bw X B') (hw:B'.w=w') (EO:Uz B' s.hp (gm (p8 pend y))) (RF:∀j,y.j≠some j->B'.e j=B.e j/\B'.b j=B.b j) (hv:Rv B' y.tv r):iL T ops X (p8 pend y) rest md s B' (a.put y.x.o.dst r) w':=by
 have sub:∀{z},z∈p8 pend y->z∈pend:=λh=>(dW.1 h).1
 have keep:∀{z q},z∈pend->z.x.o.dst=some q->y.x.o.dst≠some q->z∈p8 pend y:=λ{z q} hz h1 h2=>dW.2 ⟨hz,λe=>h2 (by rw[<-D.same z hz y hy e];exact h1)⟩
 have mK:(a.put y.x.o.dst r).tmps.size=a.tmps.size:=by
  cases y.x.o.dst with
  |none=>rfl
  |some d=>exact Array.size_setIfInBounds
 have hdf:(a.put y.x.o.dst r).defers=a.defers:=by cases y.x.o.dst<;>rfl
 have qe:∀j,y.j=some j->(B.e j).st=7/\B'.e j=nth .bu s.hp j:=λj hj=>by
  refine⟨by rw[D.lJ.q j (d_.2 ⟨y,hy,hj⟩)];rfl,EO.e j λh=> ?_⟩;obtain⟨z,hz,DN⟩:=d_.1 h;obtain⟨h1,h2⟩:=dW.1 hz;exact h2 (D.inj z h1 y hy j DN hj)
 refine⟨D.bk,I',hw,hdf.trans D.df,by rw[mK];exact D.n,EO,λj hj=> ?_,λq=> ?_,λz hz=>D.sd z (sub hz),λz hz=> ?_,λz hz=>D.st z (sub hz),λz hz=>D.made z (sub hz),λz hz j hj u hu=>D.YI z (sub hz) j hj u (sub hu),λz hz=>D.fzs z (sub hz),λz hz u hu=>D.inj z (sub hz) u (sub hu),λj hj=> ?_,λz hz=>D.md z (sub hz),λz hz=>D.ah z (sub hz),λz hz u hu=>D.pp z (sub hz) u (sub hu),λz hz u hu=>D.same z (sub hz) u (sub hu),D.rp,λx hx=>D.ok x (hx.imp id λ⟨z,hz,e⟩=>⟨z,sub hz,e⟩)⟩
 ·obtain⟨z,hz,DN⟩:=d_.1 hj;obtain⟨h1,h2⟩:=dW.1 hz;rw[(RF j λh=>h2 (D.inj z h1 y hy j DN h)).2];exact D.bn j (d_.2 ⟨z,h1,DN⟩)
 ·by_cases hq:y.x.o.dst=some q
  ·exact .inl (OQ D hy hr hq (D.sd y hy q hq) hv)
  ·rw[(AY D hy hr).1 hq];exact(D.sl q).imp (λh=>h.mono L) λ⟨z,h1,h2,h3⟩=>⟨z,keep h1 h2 hq,h2,h3⟩
 ·obtain⟨Tw,a8i⟩:=dW.1 hz;have I0:=D.it z Tw;refine⟨λt ht=> ?_,λu hu=>I0.sd u (sub hu),λj h1 h2=> ?_,?_,λh1 h2 u hu j hj=> ?_,λh1 j hj=> ?_,λh1 i e hi=>(I0.own h1 i e hi).mono L⟩
  ·by_cases hq:y.x.o.dst=some t
   ·have hb:bit z.x.m y.x.i=true:=by
     rcases D.pp z Tw y hy a8i with p|p
     ·exact((p.s2 t hq).2 ht).resolve_right (by rw[hr z Tw];exactλh=>by cases h)
     ·exact((p.s1 t hq).2 ht).resolve_right (by rw[hr z Tw];exactλh=>by cases h)
    exact .inl (OQ D hy hr hq (I0.sd y hy t ht hq hb) hv)
   ·rw[(AY D hy hr).1 hq];exact(I0.sl t ht).imp (λh=>h.mono L) λ⟨u,h1,h2,h3,h4⟩=>⟨u,keep h1 h3 hq,h2,h3,h4⟩
  ·by_cases hj:y.j=some j
   ·obtain⟨st,k1,_⟩:=D.made y hy j hj;rw[(qe j hj).2,k1,D.YI y hy j hj z Tw h1];exact cu _
   ·rw[(RF j hj).1] at h2⊢;exact I0.hZ j h1 h2
  ·rw[EO.len,<-D.lJ.len];exact I0.hl
  ·obtain⟨k1,k2⟩:=I0.spot h1 h2 u hu j hj;refine⟨k1,?_⟩
   by_cases Ry:y.j=some j
   ·obtain⟨st,g1,g2⟩:=D.made y hy j Ry;rw[(qe j Ry).2,g1,D.YI y hy j Ry z Tw ade];exact .inr ⟨g2,rfl⟩
   ·rw[(RF j Ry).1];exact k2
  ·obtain⟨k1,k2⟩:=I0.fz h1 j hj;refine⟨k1,?_⟩
   by_cases Ry:y.j=some j
   ·obtain⟨st,g1,g2⟩:=D.made y hy j Ry;have g3:=D.fzs z Tw h1 j hj;rw[(qe j Ry).2];refine .inr ⟨g3,?_⟩;rw[g1,D.YI y hy j Ry z Tw ade]
   ·rw[(RF j Ry).1];exact k2
 ·obtain⟨z,hz,DN⟩:=d_.1 hj;exact D.lk j (d_.2 ⟨z,sub hz,DN⟩)
end
end
end Go.Proofs.YtbjcjppphoppfaaGreat.T
