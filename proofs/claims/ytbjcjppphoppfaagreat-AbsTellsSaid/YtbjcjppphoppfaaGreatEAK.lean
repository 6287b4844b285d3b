import Derived.Test.YtbjcjppphoppfaaGreatEAJ
import Derived.DefersIn
import Derived.OrdersIn
set_option linter.all false
namespace Go.Proofs.YtbjcjppphoppfaaGreat.T
open Go
noncomputable section
attribute [local instance] pa
theorem wO:∀(n:Nat) (l:List TV),(wN n l).length=n
 |0,l=>by cases l<;>rfl
 |n+1,[]=>congrArg (·+1) (wO n [])
 |n+1,_::r=>congrArg (·+1) (wO n r)
theorem wP:∀(n:Nat) (l:List TV) (i:Nat),nth .bU (wN n l) i=if i<n then nth .bU l i else .bU
 |0,l,i=>by cases l<;>(rw[adq (adS _)];rfl)
 |n+1,[],0=>rfl
 |n+1,[],i+1=>by
  show nth .bU (wN n []) i=_;rw[wP n [] i]
  by_cases h:i<n
  ·rw[adp h,adh];rfl
  ·rw[adq h,adi]
 |n+1,x::r,0=>by rw[adp (Nat.succ_pos _)];rfl
 |n+1,x::r,i+1=>by
  show nth .bU (wN n r) i=_;rw[wP n r i]
  by_cases h:i<n
  ·rw[adp h,adh];rfl
  ·rw[adq h,adi]
theorem FQ {B:Bs}:∀(x:TV) (l:List Value) (i:Nat),Rl B x l->Rv B (nth .bU (jU x) i) (l.getD i undef)
 | .pr x y,_,0,⟨v,r,e,h1,_⟩=>by subst e;exact h1.rv
 | .pr x y,_,i+1,⟨v,r,e,_,h2⟩=>by
   subst e;exact FQ y r i h2
 | .un,_,_,_=>trivial
 | .bU,_,_,h| .nI,_,_,h| .nl,_,_,h| .v _ _,_,_,h| .r _,_,_,h| .rn _ _,_,_,h| .rs _ _ _,_,_,h| .p _ _,_,_,h| .q _ _,_,_,h| .tp _,_,_,h| .f _ _ _ _,_,_,h| .cl _ _,_,_,h| .nz _,_,_,h| .sa _ _ _,_,_,h=>h.elim
def x7 (vs:List Value):Value:=if h:vs.toArray.size=1 then vs.toArray[0] else .tuple vs.toArray
theorem B7 {B:Bs} {rs:List Ty} {x:TV} {vs:List Value} (h:Rl B x vs) (hl:vs.length=rs.length):Rv B (mL rs x) (x7 vs):=by
 by_cases h1:∃t,rs=[t]
 ·obtain⟨t,rfl⟩:=h1;obtain⟨v,rfl⟩:=List.length_eq_one_iff.1 hl;cases x<;>first|exact h.elim|skip
  ·cases h
  rename_i y z;obtain⟨v',r,e,k1,_⟩:=h;cases e;exact k1.rv
 ·have e1:mL rs x= .tp x:=by
   unfold mL;split
   ·rename_i t y z;exact absurd ⟨_,rfl⟩ h1
   ·rfl
  have e2:x7 vs= .tuple vs.toArray:=by
   unfold x7;rw[dif_neg];intro e;rw[List.size_toArray,hl] at e;exact h1 (List.length_eq_one_iff.1 e)
  rw[e1,e2];exact⟨_,rfl,h⟩
theorem yz {B:Bs} {a:TV} {h:List TE} (hH:h=B.H) {args:Array Value} (ha:Rl B a args.toList) (nt:Nat):gC B ⟨wN nt (jU a),h⟩ {tmps:=args++Array.replicate (nt-args.size) undef,defers:=[]} B.w:=by
 refine⟨hH,rfl,?_,λt=> ?_,rfl⟩
 ·show(wN nt (jU a)).length<=(args++Array.replicate (nt-args.size) undef).size;rw[wO,Array.size_append,Array.size_replicate];omega
 ·show Rv B (nth .bU (wN nt (jU a)) t) ((args++Array.replicate (nt-args.size) undef).getD t undef);rw[wP]
  by_cases ht:t<nt
  ·rw[adp ht];have h1:=FQ a args.toList t ha
   by_cases h2:t<args.size
   ·have e:(args++Array.replicate (nt-args.size) undef).getD t undef=args.toList.getD t undef:=by
     rw[adD,Array.getElem?_append_left h2,adG,adU]
    rw[e];exact h1
   ·have e:(args++Array.replicate (nt-args.size) undef).getD t undef=undef:=by
     rw[adD,Array.getElem?_append_right ade,Array.getElem?_replicate];split<;>rfl
    have e2:args.toList.getD t undef=undef:=by
     rw[adG,adU,Array.getElem?_eq_none ade];rfl
    rw[e,<-e2];exact h1
  ·rw[adq ht];trivial
def vg {ρ:Type} (X:Fx) (B:Bs) (rs:List Ty) (K:TV->TS->R ρ) (y:ρ) (e:Ending) (w':World):Prop:=∃x vs B' s',e= .returned (x7 vs)/\B'.w=w'/\bo B B'/\bw X B'/\Rl B' x vs/\vs.length=rs.length/\s'.hp=B'.H/\K x s'=some y
section
variable {T:CT} (hr:∀d,oV T d)
include hr
theorem H4 {calls:{ρ:Type}->List Nat->eZ ρ} (hc:∀pos,jk T.P (λ{ρ}=>calls (ρ:=ρ) pos)) {ρ:Type} {f:Nat} {rs:List Ty} {top:Bool} {pos:List Nat} {a:TV} {h:List TE} {K:TV->TS->R ρ} {y:ρ} {X:Fx} {B:Bs} (I:bw X B) (hH:h=B.H) (hf:vT T calls f rs top pos a h K=some y) {args:Array Value} (ha:Rl B a args.toList) (n:Nat):
 ∃fn c,T.P.funcs[f]? =some fn/\fn.body=some c/\c.wpIn (Wf none) n T.P (bodyPost T.P fn (vg X B rs K y)) {tmps:=args++Array.replicate (fn.ntmps-args.size) undef,defers:=[]} B.w:=by
 unfold vT at hf;split at hf
 ·cases hf
 rename_i fn ud;split at hf
 ·cases hf
 rename_i c hb;obtain⟨hl,hf⟩:=aQ hf;have hl:=adu hl;dsimp only at hf;rw[mm,adU] at ud;have S:=yz hH ha fn.ntmps;have fin:∀{B':Bs} {s':TS} {a':Act} {w':World} {x:TV} {vs:List Value},bo B B'->bw X B'->s'.hp=B'.H->B'.w=w'->a'.defers=[]->Ii T.P fn.results.toList a' w' vs->Rl B' x vs->K x s'=some y->a'.defers=[]/\∃v,(results fn a'.tmps).run T.P w'= .ok v w'/\vg X B rs K y (.returned v) w':=
  λ{B' s' a' w' x vs} L I' hs hw hd hR hx hK=>⟨hd,x7 vs,tM hR,x,vs,B',s',rfl,hw,L,I',hx,hR.2.trans ((Array.length_toList).trans hl.symm),hs,hK⟩
 refine⟨fn,c,ud,hb,eY hr hc (xe hr hc) (r:=none) (n:=n) (Q:=bodyPost T.P fn _) c I S hf ⟨λB' s' a' w' L I' S' _ hy=> ?_,λm B' s' a' w' L I' S' _ hy=>(kT hy).elim,λB' s' a' w' x vs L I' hs hw _ hd hR hx hK=> ?_⟩⟩
 ·obtain⟨x,vs,h1,h2,h3⟩:=rb I' S' fn.results.toList (show sV T s' fn.results.toList (λx=>K x s')=some y from hy);exact fin L I' S'.H S'.w S'.df h1 h2 h3
 ·exact fin L I' hs hw hd hR hx hK
theorem H3 {calls:{ρ:Type}->List Nat->eZ ρ} (hc:∀pos,jk T.P (λ{ρ}=>calls (ρ:=ρ) pos)) {ρ:Type} {f:Nat} {rs:List Ty} {top:Bool} {pos:List Nat} {a:TV} {h:List TE} {K:TV->TS->R ρ} {y:ρ} {X:Fx} {B:Bs} (I:bw X B) (hH:h=B.H) (hf:vT T calls f rs top pos a h K=some y) {args:Array Value} (ha:Rl B a args.toList) (n:Nat):
 CallsIn (Wf none) n T.P f args B.w (vg X B rs K y):=by
 obtain⟨fn,c,h1,h2,h3⟩:=H4 hr hc I hH hf ha n;exact callsIn_of_wp h1 h2 trivial h3
theorem vt (ud:∀f F,tT f T.fn=some F->aL T.P f F) (fe:∀f,fy f T.inl=true->Can T.P f):∀(m:Nat) (pos:List Nat),jk T.P (λ{ρ}=>dV T m (ρ:=ρ) pos)
 |0,pos=>by
  intro n I hs h ha;cases h
 |m+1,pos=>by
  intro n I hs h ha;rename_i ρ X B s f a K y args;have h:(match tT f T.fn with
   |some F=>HS s F a K
   |none=>bif fy f T.inl then(match(match xX T.P.funcs.toList f with|some fn=>Fp T.P T.gv fn.resultTypes.toList|none=>none) with
    |some rs=>vT T (dV T m) f rs false ((f+1000)::pos) a s.hp λx s'=>K (mL rs x) ⟨s.fr,s'.hp⟩
    |none=>none) else none)=some y:=h
  split at h
  ·rename_i F hF;exact⟨(ud f F hF).1,Ph (ud f F hF) I hs h ha n⟩
  ·obtain⟨hi,h⟩:=aQ h;split at h;rotate_left
   ·cases h
   rename_i rs _;refine⟨fe f hi,(H3 hr (λpos=>vt ud fe m pos) I hs h ha n).mono λe w' ⟨x,vs,B',s',h1,h2,h3,h4,h5,h6,h7,h8⟩=>⟨x7 vs,_,B',h1,h2,h3,h4,B7 h5 h6,?_⟩⟩;rw[<-h7];exact h8
end
end
noncomputable section
attribute [local instance] pa
theorem iM {F F':Nat->Prop} {w w':World}:∀(t:Ty) (x:t.T) (c:Nat->Value) (o:Nat),t.flat=true->bI F w t x c o->bI F' w' t x c o
 | .i _,_,_,_,_,h| .u _,_,_,_,_,h| .b,_,_,_,_,h| .s,_,_,_,_,h| .un,_,_,_,_,h=>h
 | .sl e,l,c,o,hf,_=>by cases hf
 | .gv,l,c,o,hf,_=>by cases hf
 | .pr a b,x,c,o,hf,⟨h1,h2⟩=>by
   have hf:(a.flat&&b.flat)=true:=hf;rw[adr] at hf;exact⟨iM a _ _ _ hf.1 h1,iM b _ _ _ hf.2 h2⟩
 | .ar n e,l,c,o,hf,⟨h1,h2⟩=>⟨h1,bQ.mono (λx c o=>iM e x c o hf) l _ _ h2⟩
theorem Ki {X:Fx} {B:Bs} (I:bw X B) {b:Nat} (h:B.F b):b<B.w.heap.size:=by
 rcases h with h|⟨j,s,h1,h2⟩
 ·rw[I.F0] at h;exact aef (I.xo b h) I.nx
 ·have:=I.bP j;rw[h2] at this;exact this.size (jx h1)
def X9 (B:Bs) (G:Nat->Prop):Fx:=⟨G,B.w,λb=>b<B.w.heap.size,[],[]⟩
theorem a0x {G:Nat->Prop} {w:World} {b:Nat}:(⟨G,[],[],w⟩:Bs).F b↔G b:=by
 refine⟨λh=> ?_, .inl⟩;rcases h with h|⟨j,s,h|h,_⟩
 ·exact h
 ·cases h
 ·cases h
theorem RM {X:Fx} {B:Bs} (I:bw X B) {G:Nat->Prop} (hG:∀b,G b->B.F b):bw (X9 B G) ⟨G,[],[],B.w⟩:=
 ⟨rfl,λj=>jO (by show¬7<=2;decide),λi j b s s' g=>(by rcases g with g|g<;>cases g),λj b s g=>(by cases g),λj b s _ g=>(by cases g),λb h=>⟨h,rfl⟩,adw _,λb h=>Ki I (hG b h),dY.refl _,rfl,λx hx=>(by cases hx),λx hx=>(by cases hx)⟩
theorem tj {B:Bs} {G:Nat->Prop} {w:World} (K:kA G w B.F B.w):∀(ts:List Ty) (x:fE.T ts) (l:List Value),oU G w ts x l->Rl B (unpack ts x) l
 |[],_,_,h=>h
 |[a],x,_,⟨v,e,h1,h2⟩=>⟨v,[],e,⟨h1,bI.mono K a _ _ _ h2⟩,rfl⟩
 |a::b::r,x,_,⟨v,q,e,⟨h1,h2⟩,h3⟩=>⟨v,q,e,⟨h1,bI.mono K a _ _ _ h2⟩,tj K (b::r) x.2 q h3⟩
theorem tW {B:Bs} {G:Nat->Prop} {w:World}:∀(ts:List Ty) (x:fE.T ts) (l:List Value),flatAll ts=true->oU G w ts x l->Rl B (unpack ts x) l
 |[],_,_,_,h=>h
 |[a],x,_,hf,⟨v,e,h1,h2⟩=>by
  have hf:(a.flat&&true)=true:=hf;rw[Bool.and_true] at hf;exact⟨v,[],e,⟨h1,iM a _ _ _ hf h2⟩,rfl⟩
 |a::b::r,x,_,hf,⟨v,q,e,⟨h1,h2⟩,h3⟩=>by
  have hf:(a.flat&&flatAll (b::r))=true:=hf;rw[adr] at hf;exact⟨v,q,e,⟨h1,iM a _ _ _ hf.1 h2⟩,tW (b::r) x.2 q hf.2 h3⟩
theorem vp {H:List TE}:∀(ts:List Ty) (a:TV) {x:fE.T ts},lA H ts a=some x->∀j∈ids a,(nth .bu H j).st<=2
 |[],a,x,h,j,hj=>by
  cases a<;>first|cases h|skip
  cases hj
 |[t],a,x,h,j,hj=>by
  cases a<;>first|cases h|skip
  rename_i p q;cases q<;>first|cases h|skip
  rcases adC.1 hj with hj|hj
  ·exact(du t p h).live j hj
  ·cases hj
 |t::u::r,a,x,h,j,hj=>by
  cases a<;>first|cases h|skip
  rename_i p q;have h:(match tU H p t,lA H (u::r) q with|some p,some q=>some (p,q)|_,_=>none)=some x:=h;split at h
  ·rename_i y z h1 h2;rcases adC.1 hj with hj|hj
   ·exact(du t p h1).live j hj
   ·exact vp (u::r) q h2 j hj
  ·cases h
theorem DT {X:Fx} {B B2:Bs} {G:Nat->Prop} (I:bw X B) (I2:bw (X9 B G) B2):bo B ⟨B.F0,B.H,B.bs,B2.w⟩/\bw X ⟨B.F0,B.H,B.bs,B2.w⟩:=by
 have hb:B.b B.H.length=none:=dw _ _ _ (by rw[I.len];exact adw _);refine I.step B.H.length (B':=⟨B.F0,B.H,B.bs,B2.w⟩) rfl I.len (adw _) (λj _=>⟨.inl rfl,rfl⟩) (λx hx=>Nat.ne_of_lt (I.lk x hx).1) (λb h _=>(I2.old b h).2) I2.nx I2.io (λb s h=> ?_) (λh=>absurd (by rw[B_];rfl) h) (λ_ h=> ?_)
 ·have h:B.b B.H.length=some (b,s):=h;rw[hb] at h;cases h
 ·have h:(B.e B.H.length).st<=2:=h;rw[B_] at h;exact absurd h (show¬7<=2 by decide)
def Bs.s8 (B B2:Bs) (js:List Nat):Bs:=⟨B.F0,B.H++js.map B2.e,B.bs++js.map B2.b,B2.w⟩
theorem wI {α:Type} (d:α) (f:Nat->α):∀(js:List Nat) (i:Nat),nth d (js.map f) i=match js[i]? with|some j=>f j|none=>d
 |[],i=>rfl
 |a::r,0=>rfl
 |a::r,i+1=>by
  show nth d (r.map f) i=_;rw[wI d f r i];rfl
theorem jD {B B2:Bs} {js:List Nat} (hl:B.bs.length=B.H.length) {i:Nat} (h:i<B.H.length):(B.s8 B2 js).e i=B.e i/\(B.s8 B2 js).b i=B.b i:=by
 constructor
 ·show nth _ (B.H++_) i=_;rw[dF,adp h];rfl
 ·show nth _ (B.bs++_) i=_;rw[dF,adp (by rw[hl];exact h)];rfl
theorem kB {B B2:Bs} {js:List Nat} (hl:B.bs.length=B.H.length) {i j:Nat} (h:js[i]? =some j):(B.s8 B2 js).e (B.H.length+i)=B2.e j/\(B.s8 B2 js).b (B.H.length+i)=B2.b j:=by
 constructor
 ·show nth _ (B.H++_) _=_;rw[dF,adi,ae1,wI,h]
 ·show nth _ (B.bs++_) _=_;rw[dF,adi,hl,ae1,wI,h]
theorem mc {B B2:Bs} {js:List Nat} {i:Nat} (h:((B.s8 B2 js).e i).st≠7):i<B.H.length\/∃k j,i=B.H.length+k/\js[k]? =some j:=by
 have h1:=jB h;have h1:i<(B.H++js.map B2.e).length:=h1;rw[ado,ae0] at h1
 by_cases h2:i<B.H.length
 ·exact .inl h2
 ·refine .inr ⟨i-B.H.length,js[i-B.H.length],ade,?_⟩;exact ae2 ade
theorem bw.s8 {X:Fx} {B B2:Bs} {G:Nat->Prop} (I:bw X B) (I2:bw (X9 B G) B2) {js:List Nat} (hj:∀j∈js,∃e l,B2.e j=⟨1, .row e l⟩/\e.flat=true) (hd:js.Nodup):bo B (B.s8 B2 js)/\bw X (B.s8 B2 js):=by
 have Yu:∀{k j},js[k]? =some j->(B2.e j).st=1:=λ{k j} h=>by
  obtain⟨e,l,h1,_⟩:=hj j (List.mem_of_getElem? h);rw[h1]
 have new:∀{k j b s},js[k]? =some j->B2.b j=some (b,s)->B.w.heap.size<=b:=λ{k j b s} h h1=>by
  have:=I2.lo j b s (Yu h) h1;have:¬b<B.w.heap.size:=this;omega
 have hF:∀b,(B.s8 B2 js).F b->B.F b\/B.w.heap.size<=b:=by
  rintro b (h|⟨i,s,h1,h2⟩)
  ·exact .inl (.inl h)
  ·rcases mc (xM (jx h1)) with hi|⟨k,j,rfl,hk⟩
   ·obtain⟨e1,e2⟩:=jD (B2:=B2) (js:=js) I.len hi;unfold Bs.own at h1;rw[e1] at h1;rw[e2] at h2;exact .inl (.inr ⟨i,s,h1,h2⟩)
   ·rw[(kB I.len hk).2] at h2;exact .inr (new hk h2)
 have L:bo B (B.s8 B2 js):=by
  refine⟨λb cs T fz h1 h2=> ?_,λj h=> ?_⟩
  ·have hb:=(ae3.1 h2).1;refine⟨λh=> ?_,fz,((I2.old b hb).2).trans h2⟩;rcases hF b h with h|h
   ·exact h1 h
   ·omega
  ·obtain⟨e1,e2⟩:=jD (B2:=B2) (js:=js) I.len (jB h);rw[e1,e2];exact⟨h,rfl,cu _⟩
 have sz:∀{j b s},(B.e j).st<=2->B.b j=some (b,s)->b<B.w.heap.size:=λ{j b s} h1 h2=>by
  have:=I.bP j;rw[h2] at this;exact this.size h1
 refine⟨L,?_,λi=> ?_,λi j b s s' g1 g2 g3 g4=> ?_,λi b s g1 g2=> ?_,λi b s g1 g2=> ?_,λb h=> ?_,aem I.nx I2.nx,I.xo,I.io.trans I2.io,I.F0,λx hx=>(I.DO x hx).mono L,λx hx=> ?_⟩
 ·show(B.bs++_).length=(B.H++_).length;rw[ado,ado,ae0,ae0,I.len]
 ·by_cases h7:((B.s8 B2 js).e i).st<=2
  rotate_left
  ·exact jO h7
  rcases mc (xM h7) with hi|⟨k,j,rfl,hk⟩
  ·obtain⟨e1,e2⟩:=jD (B2:=B2) (js:=js) I.len hi;rw[e1] at h7;rw[e1,e2];exact lg.mono L (λb s h=>(I2.old b (sz h7 h)).2) (I.bP i)
  ·obtain⟨e1,e2⟩:=kB (B2:=B2) I.len hk;rw[e1,e2];obtain⟨e,l,g1,g2⟩:=hj j (List.mem_of_getElem? hk);have:=I2.bP j;rw[g1] at this⊢;intro h2;obtain⟨k1,k2,k3⟩:=this h2;exact⟨k1,k2,k3.imp id λk3=>k3.mono (λb s _=>rfl) λcs ⟨q1,q2⟩=>⟨q1,bQ.mono (λx c o=>iM e x c o g2) l _ _ q2⟩⟩
 ·rcases mc (xM (jx g1)) with hi|⟨k,i',rfl,hk⟩
  ·obtain⟨e1,e2⟩:=jD (B2:=B2) (js:=js) I.len hi;unfold Bs.own at g1;rw[e1] at g1;rw[e2] at g3;rcases mc (xM g2) with hj'|⟨k',j',rfl,hk'⟩
   ·obtain⟨f1,f2⟩:=jD (B2:=B2) (js:=js) I.len hj';rw[f1] at g2;rw[f2] at g4;exact I.inj i j b s s' g1 g2 g3 g4
   ·rw[(kB I.len hk').2] at g4;have:=new hk' g4;have:=sz (jx g1) g3;omega
  ·rw[(kB I.len hk).2] at g3;rcases mc (xM g2) with hj'|⟨k',j',rfl,hk'⟩
   ·obtain⟨f1,f2⟩:=jD (B2:=B2) (js:=js) I.len hj';rw[f1] at g2;rw[f2] at g4;have:=new hk g3;have:=sz g2 g4;omega
   ·rw[(kB I.len hk').2] at g4;have e:=I2.inj i' j' b s s' (.inl (Yu hk)) (by rw[Yu hk'];decide) g3 g4;subst e;have iJ:=(aee.1 hk).1;rw[(List.getElem?_inj iJ hd).1 (hk.trans hk'.symm)]
 ·intro hO;have h1:=(I.old b hO).1;rcases mc (xM (by rw[g1];decide)) with hi|⟨k,j,rfl,hk⟩
  ·obtain⟨e1,e2⟩:=jD (B2:=B2) (js:=js) I.len hi;rw[e1] at g1;rw[e2] at g2;exact I.lo i b s g1 g2 hO
  ·rw[(kB I.len hk).2] at g2;have:=new hk g2;omega
 ·intro hO;rcases mc (xM g1) with hi|⟨k,j,rfl,hk⟩
  ·obtain⟨e1,e2⟩:=jD (B2:=B2) (js:=js) I.len hi;rw[e1] at g1;rw[e2] at g2;exact I.fr i b s g1 g2 hO
  ·rw[(kB I.len hk).2] at g2;have:=new hk g2;have:=aef (I.xo b hO) I.nx;omega
 ·obtain⟨h1,h2⟩:=I.old b h;exact⟨aef h1 I2.nx,((I2.old b h1).2).trans h2⟩
 ·obtain⟨k1,k2,k3,k4⟩:=I.lk x hx;obtain⟨e1,e2⟩:=jD (B2:=B2) (js:=js) I.len k1;exact⟨by show _<(B.H++_).length;rw[ado];omega,e1.trans k2,e2.trans k3,k4⟩
inductive xN (H:List TE):(t:Ty)->TV->t.T->List Nat->Prop
 |r (e:Ty) (j:Nat) (l:(Ty.sl e).T) (h:nth .bu H j=⟨1, .row e l⟩) (hf:e.flat=true):xN H (.sl e) (.r j) l [j]
 |f (t:Ty) (x:TV) (y:t.T) (hf:t.flat=true) (h:ly H t x y):xN H t x y []
 |pr (a c:Ty) (x y:TV) (p:a.T) (q:c.T) (js ks:List Nat) (hf:(Ty.pr a c).flat=false) (h1:xN H a x p js) (h2:xN H c y q ks):xN H (.pr a c) (.pr x y) (Sc (a:=a) (c:=c) p q) (js++ks)
theorem HD {H:List TE}:∀(t:Ty) (x:TV) {y:t.T} {l l':List Nat},ly H t x y->Fi H t x l=some l'->l.Nodup->∃js,xN H t x y js/\l'=js.reverse++l/\l'.Nodup:=by
 intro t;have flat:∀{t:Ty} {x:TV} {y:t.T} {l l':List Nat},ly H t x y->(bif t.flat then some l else none)=some l'->l.Nodup->∃js,xN H t x y js/\l'=js.reverse++l/\l'.Nodup:=λ{t x y l l'} hs h hd=>by
  obtain⟨hf,h⟩:=aQ h;cases h;exact⟨[], .f t x y hf hs,rfl,hd⟩
 induction t with
 |sl e ih=>
  intro x y l l' hs h hd;cases x<;>first|cases h|skip
  rename_i j;have h:(match nth .bu H j with|⟨1, .row f _⟩=>bif f.flat&&(decide (f=e)&& !(fy j l)) then some (j::l) else none|_=>none)=some l':=h;split at h;rotate_left
  ·cases h
  rename_i f r hE;obtain⟨hc,h'⟩:=aQ h;cases h';clear h;rw[adr,adr] at hc;obtain⟨hf,he,hm⟩:=hc;have he:=aed he;subst he;have hm:j∉l:=λh=>by rw[dz.2 h] at hm;cases hm
  refine⟨[j],?_,rfl,List.nodup_cons.2 ⟨hm,hd⟩⟩;cases hs with
  |r _ _ st l h1 h2=>
   rw[hE] at h1;cases h1;exact .r f j r hE hf
 |pr a c ia ic=>
  intro x y l l' hs h hd;unfold Fi at h;cases hf:(Ty.pr a c).flat with
  |true=>rw[hf] at h;exact flat hs (by rw[hf];exact h) hd
  |false=>
   rw[hf,cond_false] at h;cases x<;>first|cases h|skip
   rename_i x1 x2;dsimp only at h;split at h;rotate_left
   ·cases h
   rename_i l1 h1;cases hs with
   |pr _ _ _ _ p q s1 s2=>
    obtain⟨js,j1,j2,j3⟩:=ia x1 s1 h1 hd;obtain⟨ks,k1,k2,k3⟩:=ic x2 s2 h j3;exact⟨js++ks, .pr a c x1 x2 p q js ks hf j1 k1,by rw[k2,j2,List.reverse_append,adQ],k3⟩
 |_=>intro x y l l' hs h hd;exact flat hs h hd
end
noncomputable section
attribute [local instance] pa
theorem JD:∀(t:Ty) (y:t.T) (h:List TE),t.flat=true->uq t y h=(.v t y,h)
 | .sl e,_,_,hf=>by cases hf
 | .pr a c,y,h,hf=>by
   unfold uq;rw[hf];rfl
 | .i _,_,_,_| .u _,_,_,_| .b,_,_,_| .s,_,_,_| .un,_,_,_| .ar _ _,_,_,_| .gv,_,_,_=>rfl
def SN (B2 Bf:Bs) (n:Nat) (js:List Nat):Prop:=∀i j,js[i]? =some j->Bf.e (n+i)=B2.e j/\Bf.b (n+i)=B2.b j
theorem xN.own {H:List TE} {t:Ty} {x:TV} {y:t.T} {js:List Nat} (o:xN H t x y js):∀(h0:List TE),∃x',uq t y h0=(x',h0++js.map (nth .bu H))/\∀{X:Fx} {B2 Bf:Bs},bw X B2->H=B2.H->t.pos=true->SN B2 Bf h0.length js->x'.cells=x.cells/\x'.ag=x.ag/\k_ x'=true/\k_ x=true/\∀c o,Rp B2 x c o->Rp Bf x' c o:=by
 induction o with
 |r e j l h hf=>
  intro h0;refine⟨.r h0.length,by rw[List.map_singleton,h];rfl,λ{X B2 Bf} I hH _ hm=>⟨rfl,rfl,rfl,rfl,λc o hr=> ?_⟩⟩;obtain⟨e1,e2⟩:=hm 0 j rfl;show(Bf.e h0.length).st≠7/\_;rw[ae9] at e1 e2;rw[e1,e2];exact hr
 |f t x y hf hs=>
  intro h0;refine⟨.v t y,by rw[JD t y h0 hf,List.map_nil,adP],λ{X B2 Bf} I hH hp _=> ?_⟩;obtain⟨c1,c2⟩:=hs.shape;refine⟨c2.symm,c1.symm,rfl,hs.k_,λc o hr=> ?_⟩;rw[hH] at hs;have:=hs.rep I (G:=B2.F) (λb h=>h) hp (λj hj=>by rw[sC hs hf] at hj;cases hj) hr;exact iM t y c o hf this
 |pr a c x y p q js ks hf h1 h2 i1 i2=>
  intro h0;obtain⟨x1,e1,k1⟩:=i1 h0;obtain⟨x2,e2,k2⟩:=i2 (h0++js.map (nth .bu H));refine⟨.pr x1 x2,?_,λ{X B2 Bf} I hH hp hm=> ?_⟩
  ·have e:uq (.pr a c) (Sc p q) h0=(bif (Ty.pr a c).flat then(.v (.pr a c) (Sc p q),h0) else(match uq a p h0 with|(x1,h)=>(match uq c q h with|(y1,h)=>(TV.pr x1 y1,h)))):=rfl;rw[e,hf,cond_false,e1];dsimp only;rw[e2];dsimp only;rw[List.map_append,adQ]
  ·have hp:(a.pos&&c.pos)=true:=hp;rw[adr] at hp;obtain⟨a1,a2,a3,a4,a5⟩:=k1 (Bf:=Bf) I hH hp.1 (λi j h=>hm i j (by rw[List.getElem?_append_left (aee.1 h).1];exact h));obtain⟨b1,b2,b3,b4,b5⟩:=k2 (Bf:=Bf) I hH hp.2 (λi j h=>by
    have:=hm (js.length+i) j (by rw[List.getElem?_append_right ade,ae1];exact h);rw[ado,ae0,adV];exact this)
   refine⟨by show _+_=_+_;rw[a1,b1],rfl,rfl,rfl,λcc o hr=>⟨a5 _ _ hr.1,?_⟩⟩;rw[a1];exact b5 _ _ hr.2
theorem Oz {B2 Bf:Bs} {x x':TV} (h:x'.cells=x.cells/\x'.ag=x.ag/\k_ x'=true/\k_ x=true/\∀c o,Rp B2 x c o->Rp Bf x' c o) {v:Value} (hv:Whole x (Rp B2 x) v):Whole x' (Rp Bf x') v:=by
 obtain⟨h1,h2,h3,h4,h5⟩:=h;have hv:=hv.rv;rw[gI h4] at hv;refine tk h3 ?_;rw[gI h3,h1,h2];exact⟨hv.1,h5 _ _ hv.2⟩
theorem C' {H:List TE} {t:Ty} {x:TV} {y:t.T} {js:List Nat} (o:xN H t x y js):∀j∈js,∃e l,nth .bu H j=⟨1, .row e l⟩/\e.flat=true:=by
 induction o with
 |r e j l h hf=>intro i hi;rw[adF.1 hi];exact⟨e,l,h,hf⟩
 |f t x y hf hs=>intro j hj;cases hj
 |pr a c x y p q js ks hf h1 h2 i1 i2=>intro j hj;exact(adC.1 hj).elim (i1 j) (i2 j)
def UD (H:List TE) (ts:List Ty) (a:TV) (x:fE.T ts) (js:List Nat):Prop:=(∀j∈js,∃e l,nth .bu H j=⟨1, .row e l⟩/\e.flat=true)/\∀(h0:List TE),∃x',pS ts x h0=(x',h0++js.map (nth .bu H))/\∀{X:Fx} {B2 Bf:Bs},bw X B2->H=B2.H->SN B2 Bf h0.length js->∀vs,Rl B2 a vs->Rl Bf x' vs
theorem zl {H:List TE}:∀(ts:List Ty) (a:TV) {x:fE.T ts} {l:List Nat},fq ts=true->lA H ts a=some x->nD H ts a l=true->l.Nodup->∃js,(js.reverse++l).Nodup/\UD H ts a x js
 |[],a,x,l,_,h,_,hd=>by
  cases a<;>first|cases h|skip
  exact⟨[],hd,λj hj=>(by cases hj),λh0=>⟨.un,by show(TV.un,h0)=_;rw[List.map_nil,adP],λ_ _ _ vs h=>h⟩⟩
 |[t],a,x,l,hp,h,ho,hd=>by
  cases a<;>first|cases h|skip
  rename_i p q;cases q<;>first|cases h|skip
  have hp:(t.pos&&true)=true:=hp;rw[Bool.and_true] at hp;have ho:(match Fi H t p l with|some l=>nD H [] .un l|none=>false)=true:=ho;split at ho;rotate_left
  ·cases ho
  rename_i l1 h1;obtain⟨js,o1,o2,o3⟩:=HD t p (du t p h) h1 hd;refine⟨js,by rw[<-o2];exact o3,C' o1,λh0=> ?_⟩;obtain⟨x',e1,k⟩:=o1.own h0;refine⟨.pr x' .un,?_,λ{X B2 Bf} I hH hm vs hr=> ?_⟩
  ·show(match uq t x h0 with|(x,h)=>(TV.pr x .un,h))=_;rw[e1]
  ·obtain⟨v,r,e,g1,g2⟩:=hr;exact⟨v,r,e,Oz (k I hH hp hm) g1,g2⟩
 |t::u::r,a,x,l,hp,h,ho,hd=>by
  cases a<;>first|cases h|skip
  rename_i p q;have hp:(t.pos&&fq (u::r))=true:=hp;rw[adr] at hp;have h:(match tU H p t,lA H (u::r) q with|some p,some q=>some (p,q)|_,_=>none)=some x:=h;split at h;rotate_left
  ·cases h
  rename_i y z h1 h2;cases h;have ho:(match Fi H t p l with|some l=>nD H (u::r) q l|none=>false)=true:=ho;split at ho;rotate_left
  ·cases ho
  rename_i l1 h3;obtain⟨js,o1,o2,o3⟩:=HD t p (du t p h1) h3 hd;obtain⟨ks,g1,g2,g3⟩:=zl (u::r) q hp.2 h2 ho o3;refine⟨js++ks,by rw[List.reverse_append,adQ,<-o2];exact g1,λj hj=>(adC.1 hj).elim (C' o1 j) (g2 j),λh0=> ?_⟩;obtain⟨x1,e1,k1⟩:=o1.own h0;obtain⟨x2,e2,k2⟩:=g3 (h0++js.map (nth .bu H));refine⟨.pr x1 x2,?_,λ{X B2 Bf} I hH hm vs hr=> ?_⟩
  ·show(match uq t y h0 with|(x1,h)=>(match pS (u::r) z h with|(y,h)=>(TV.pr x1 y,h)))=_;rw[e1];dsimp only;rw[e2];dsimp only;rw[List.map_append,adQ]
  ·obtain⟨v,rest,e,m1,m2⟩:=hr;refine⟨v,rest,e,Oz (k1 I hH hp.1 λi j h=>hm i j (by rw[List.getElem?_append_left (aee.1 h).1];exact h)) m1,k2 I hH (λi j h=> ?_) rest m2⟩;have:=hm (js.length+i) j (by rw[List.getElem?_append_right ade,ae1];exact h);rw[ado,ae0,adV];exact this
def Xz (r:List Ty) (fresh:Bool) (res:TV) (s:TS):R (fE.T r):=bif !fresh||nD s.hp r res [] then(match lA s.hp r res with|some y=>ret y|none=>none) else none
theorem Oy {P:Program} {f:Nat} {a r:List Ty} {fresh:Bool} {run:TV->List TE->(TV->TS->R (fE.T r))->R (fE.T r)} (wb:∀{X:Fx} {B:Bs} {h:List TE} {tv:TV} {K:TV->TS->R (fE.T r)} {y:fE.T r} {args:Array Value},bw X B->h=B.H->run tv h K=some y->Rl B tv args.toList->∀n,CallsIn (Wf none) n P f args B.w (vg X B r K y)) (w8:Can P f) (ha:fq a=true) (hq:fq r=true):aL P f ⟨a,r,fresh,λx=>run (unpack a x) [] (Xz r fresh)⟩:=by
 refine⟨w8,ha,λX B G x y args n I hG Yj hA hf=> ?_⟩;have hf:run (unpack a x) [] (Xz r fresh)=some y:=hf;have I1:=RM I hG;refine(wb I1 rfl hf (tj (λb cs T fz h1 h2=>⟨λh=>h1 (a0x.1 h),fz,h2⟩) a x _ hA) n).mono λe w' ⟨xr,vs,B2,s2,e1,e2,e3,I2,e5,e6,e7,e8⟩=> ?_
 obtain⟨Nt,e8⟩:=aQ e8;split at e8;rotate_left
 ·cases e8
 rename_i y' hy;cases e8;rw[e7] at hy Nt;subst e2;have hGF:∀b,G b->B2.F b:=λb h=> .inl (by rw[I2.F0];exact h)
 cases BD:fresh with
 |false=>
  rw[BD] at Yj;obtain⟨L,I'⟩:=DT I I2;refine⟨x7 vs,⟨B.F0,B.H,B.bs,B2.w⟩,e1,rfl,L,I',rfl,?_⟩;have hA2:oU G B2.w r y vs:=vq I2 hGF r xr hq hy (λj hj b s hb hg=>I2.fr j b s (vp r xr hy j hj) hb hg) e5;show Rv _ (mL r (unpack r y)) (x7 vs);refine B7 ?_ e6;rcases Yj with oO|Yj
  ·have oO:(flatAll r||false)=true:=oO;rw[Bool.or_false] at oO;exact tW r y vs oO hA2
  ·exact tj (B:=⟨B.F0,B.H,B.bs,B2.w⟩) (w:=B2.w) (λb cs T fz h1 h2=>⟨λh=>h1 (Yj b h),fz,h2⟩) r y vs hA2
 |true=>
  rw[BD] at Nt;have Nt:nD B2.H r xr []=true:=Nt;obtain⟨js,h1,h2,h3⟩:=zl r xr hq hy Nt List.nodup_nil;rw[adP] at h1;have h1:js.Nodup:=(List.reverse_perm js).nodup_iff.1 h1;obtain⟨L,I'⟩:=I.s8 I2 (js:=js) h2 h1;obtain⟨x',g1,g2⟩:=h3 B.H;have er:Df ⟨a,r,true,λx=>run (unpack a x) [] (Xz r true)⟩ y B.H=(x',B.H++js.map (nth .bu B2.H)):=g1;refine⟨x7 vs,B.s8 B2 js,e1,rfl,L,I',by rw[er];rfl,?_⟩;rw[er];show Rv _ (mL r x') (x7 vs);exact B7 (g2 I2 rfl (λi j h=>kB I.len h) vs e5) e6
theorem XV {T:CT} (hr:∀d,oV T d) (ud:∀f F,tT f T.fn=some F->aL T.P f F) (fe:∀f,fy f T.inl=true->Can T.P f) {f:Nat} {a r:List Ty} {fresh:Bool} (w8:Can T.P f) (ha:fq a=true) (hq:fq r=true):aL T.P f (tfn T f a r fresh):=
 Oy (run:=λtv h K=>vT T (dV T 6) f r true [] tv h K) (λI hH hf hA n=>H3 hr (λpos=>vt hr ud fe 6 pos) I hH hf hA n) w8 ha hq
end
noncomputable section
abbrev Un (d:Deferred):pf:=⟨[d]⟩
theorem Fo {o:Oper} {x:Operand} (h:Fm o=some x):∃c,o.op= .defer c/\o.guard=none/\o.dst=none/\c.callee= .value x/\c.args.toList=[]:=by
 unfold Fm at h;split at h
 ·rename_i c h1 h2 h3;split at h
  ·rename_i x' h4;split at h
   ·rename_i h5;cases h;exact⟨c,h1,h2,h3,h4,h5⟩
   ·cases h
  ·cases h
 ·cases h
section
variable [pf] {T:CT} (BF:∀d,@oV pa T d) (hr:∀d,oV T d)
include BF hr
theorem Sg {calls:{ρ:Type}->List Nat->eZ ρ} (hc:∀pos,jk T.P (λ{ρ}=>calls (ρ:=ρ) pos)) {ρ:Type} {fn:Func} {rs:List Ty} {K:TV->TS->R ρ} {y:ρ} {X:Fx} {B0 B:Bs} {c1:Code} {E:Go} {lv g:Nat} {cap:TV} {s2:TS} {a2:Act} {w2:World} (L0:bo B0 B) (I:bw X B) (S:gC B s2 a2 w2) {n:Nat} {cs:Array Value} (hds:pf.ds=[⟨.fn (.func g) cs,#[]⟩]) (jT:Rl B cap cs.toList) (w8:Can T.P g) (hl:rs.length=fn.results.size)
 (hf:runT T calls (pV T calls) c1 E [2] false lv s2 ⟨λ_=>none,[],λ_ s3=>vT T calls g [] false [g+1000] cap s3.hp λ_ s4=>sV T ⟨kz (cn c1) s2.fr 0,s4.hp⟩ fn.results.toList λx=>K x ⟨kz (cn c1) s2.fr 0,s4.hp⟩⟩=some y):
 c1.wpIn (Wf none) n T.P (bodyPostDIn (Wf none) n T.P fn (vg X B0 rs K y)) a2 w2:=by
 refine eY hr hc (xe hr hc) (r:=none) (n:=n) c1 I S hf ⟨λB' s' a' w' L' I' S' _ hy=>(by cases hy),λm B' s' a' w' L' I' S' _ hy=>(kT hy).elim,λB3 s3 a3 w3 x vs L3 I3 hs hw kp hd hR hx hK=> ?_⟩;show LeavesIn (Wf none) n T.P fn a3.tmps _ a3.defers .returning w3;rw[hd,hds];have hK:vT T calls g [] false [g+1000] cap s3.hp (λ_ s4=>sV T ⟨kz (cn c1) s2.fr 0,s4.hp⟩ fn.results.toList λx=>K x ⟨kz (cn c1) s2.fr 0,s4.hp⟩)=some y:=hK;obtain⟨fn',c',f1,f2,f3⟩:=H4 BF hc I3 hs hK (args:=cs) (Rl.mono L3 _ _ jT) (n-1);rw[hw] at f3;have hi:(invoke (.fn (.func g) cs) #[]).run T.P w3= .ok (.enter g cs) w3:=by
  have:(invoke (.fn (.func g) cs) #[])=callFunc g (#[]++cs):=rfl;rw[this,Array.empty_append];exact rh w8 _ _
 refine leavesIn_cons (by simp) (λh=>by cases h) hi (λ_ _=>trivial) ((callsDIn_of_wp f1 f2 trivial f3).mono λe u' w' ⟨hu,x4,vs4,B4,s4,e1,e2,L4,I4,_,_,h4,hk4⟩=> ?_);subst hu;rw[e1];have S4:gC B4 ⟨kz (cn c1) s2.fr 0,s4.hp⟩ a3 w':=⟨h4,e2,by show(kz _ s2.fr 0).length<=_;rw[lY,kp.1];exact S.n,λt=>rK S (L3.trans L4) kp t,hd⟩;obtain⟨x5,vs5,q1,q2,q3⟩:=rb I4 S4 fn.results.toList hk4;show∃v,(results fn a3.tmps).run T.P w'= .ok v w'/\vg X B0 rs K y (.returned v) w';exact⟨x7 vs5,tM q1,x5,vs5,B4,⟨kz (cn c1) s2.fr 0,s4.hp⟩,rfl,e2,L0.trans (L3.trans L4),I4,q2,q1.2.trans ((Array.length_toList).trans hl.symm),h4,q3⟩
end
section
attribute [local instance] pa
variable {T:CT} (hdp:20<=T.P.depth) (hr:∀(D:pf) d,@oV D T d)
include hdp hr
theorem Qd {calls:{ρ:Type}->List Nat->eZ ρ} (hc:∀pos,jk T.P (λ{ρ}=>calls (ρ:=ρ) pos)) (fe:∀f,fy f T.inl=true->Can T.P f) {ρ:Type} {f:Nat} {rs:List Ty} {a:TV} {h:List TE} {K:TV->TS->R ρ} {y:ρ} {X:Fx} {B:Bs} (I:bw X B) (hH:h=B.H) (hf:Qc T calls f rs a h K=some y) {args:Array Value} (ha:Rl B a args.toList) (n:Nat):
 CallsIn (Wf none) n T.P f args B.w (vg X B rs K y):=by
 unfold Qc at hf;split at hf
 ·cases hf
 rename_i fn ud
 replace hf:=aQ hf
 obtain⟨hl,hf⟩:=hf;have hl:=adu hl;rw[mm,adU] at ud;split at hf;rotate_left
 ·cases hf
 rename_i c0 id ops c1 hb;split at hf;rotate_left
 ·cases hf
 rename_i o1 o2 RD;split at hf;rotate_left
 ·cases hf
 rename_i x hx;dsimp only at hf;obtain⟨c,p1,p2,p3,p4,p5⟩:=Fo hx;have h0:ops[0]? =some o1:=by rw[<-adU,RD];rfl
 have h1:ops[1]? =some o2:=by rw[<-adU,RD];rfl
 have mK:ops.size=2:=by rw[<-Array.length_toList,RD];rfl
 have S:=yz hH ha fn.ntmps;refine callsIn_of_wp_defers ud hb trivial (wpIn_seq ?_);refine eY (hr pa) hc (xe (hr pa) hc) (r:=none) (n:=n) c0 I S hf ⟨λB1 s1 a1 w1 L1 I1 S1 _ hy=> ?_,λm B' s' a' w' L I' S' _ hy=>(kT hy).elim,λB' s' a' w' x vs L I' hs hw _ hd hR hx hK=>by cases hK⟩;show(Code.seq (.region id ops false) c1).wpIn (Wf none) n T.P _ a1 w1;refine wpIn_seq (wpIn_region ?_);rw[mK];have key:=qD hdp (hc [1]) (X:=X) (ops:=ops) (r:=none) (n:=n) (Q:=λe a w=>match e with| .normal=>wpOpsIn (Wf none) n T.P ops (Exit.then (c1.wpIn (Wf none) n T.P (bodyPostDIn (Wf none) n T.P fn (vg X B rs K y))) (bodyPostDIn (Wf none) n T.P fn (vg X B rs K y))) [1] a w|e=>Exit.then (c1.wpIn (Wf none) n T.P (bodyPostDIn (Wf none) n T.P fn (vg X B rs K y))) (bodyPostDIn (Wf none) n T.P fn (vg X B rs K y)) e a w) (wr:=cn (.region id ops false)) [o1] 0 (λk o hk=>by
  cases k with
  |zero=>cases hk;rw[adI];exact h0
  |succ k=>cases hk) (λo ho d hd=> ?_) I1 S1 hy λB2 s2 a2 w2 L2 I2 S2 _ hK=> ?_
 ·exact key
 ·rw[adF.1 ho] at hd;exact BA (by rw[RD];exact adt) hd
 ·have hK:(match dn s2 x with
   | .f g cap 0 _=>bif fy g T.inl then runT T calls (pV T calls) c1 ⟨[],[],false,bitsOf (fn.results.toList.map λx=>match x with| .tmp t=>t| .cell t _=>t)⟩ [2] false (bitsOf (fn.results.toList.map λx=>match x with| .tmp t=>t| .cell t _=>t)) s2 ⟨λ_=>none,[],λ_ s3=>vT T calls g [] false [g+1000] cap s3.hp λ_ s4=>sV T ⟨kz (cn c1) s2.fr 0,s4.hp⟩ fn.results.toList λx=>K x ⟨kz (cn c1) s2.fr 0,s4.hp⟩⟩ else none
   |_=>none)=some y:=hK
  split at hK;rotate_left
  ·cases hK
  rename_i g cap m hx2;obtain⟨hm,hK⟩:=aQ hK;have hv:=AO S2.sl x;rw[hx2] at hv;obtain⟨fs,cs,e1,e2,e3,e4⟩:=(d7 rfl rfl hv).2;have e1:a2.eval x= .func (.func g) fs cs:=e1;have e2:fs= #[]:=Array.eq_empty_of_size_eq_zero e2;subst e2;have jT:Rl B2 cap cs.toList:=by simpa using e4
  have Cm:c.args.map a2.eval= #[]:=by
   rw[<-Array.toList_inj,Array.toList_map,p5];rfl
  have hex:(execOp a2.eval o2).run T.P w2= .ok (.defer ⟨.fn (.func g) cs,#[]⟩) w2:=by
   simp[execOp,p1,resolve,p4,e1,Cm,Deferred.ofValue]
  show wpOpsIn (Wf none) n T.P ops _ [1] a2 w2;unfold wpOpsIn;rw[h1];have a0v:Region.wanted o2 (yielded ops a2.tmps)=true:=by simp[Region.wanted,p2]
  simp only[a0v,adA];refine⟨λ_ _=>trivial,?_⟩;rw[show(Oper.semAt (Wf none).round a2.eval o2)=execOp a2.eval o2 from rfl,hex];show c1.wpIn (Wf none) n T.P _ (({a2 with defers:=_::a2.defers}:Act).put o2.dst undef) w2;rw[p3];have hdf:a2.defers=[]:=S2.df;rw[hdf];refine @Sg (Un ⟨.fn (.func g) cs,#[]⟩) T (hr pa) (hr _) calls hc ρ fn rs K y X B B2 c1 _ _ g cap s2 _ w2 (L1.trans L2) I2 (@gC.mk (Un ⟨.fn (.func g) cs,#[]⟩) B2 s2 {a2 with defers:=[⟨.fn (.func g) cs,#[]⟩]} w2 S2.H S2.w S2.n S2.sl rfl) n cs rfl jT (fe g hm) hl hK
theorem UX (ud:∀f F,tT f T.fn=some F->aL T.P f F) (fe:∀f,fy f T.inl=true->Can T.P f) {f:Nat} {a r:List Ty} {fresh:Bool} (w8:Can T.P f) (ha:fq a=true) (hq:fq r=true):aL T.P f (dfn T f a r fresh):=
 Oy (run:=λtv h K=>Qc T (dV T 6) f r tv h K) (λI hH hf hA n=>Qd hdp hr (λpos=>vt (hr pa) ud fe 6 pos) fe I hH hf hA n) w8 ha hq
end
end
noncomputable section
variable [pf]
theorem qn (m i:Nat):bit m i=m.testBit i:=by
 rw[Nat.testBit_eq_decide_div_mod_eq];show Nat.beq (m/2^i %2) 1=decide (m/2^i %2=1);cases h:Nat.beq (m/2^i %2) 1 with
 |true=>exact(adm (adu h)).symm
 |false=>exact(adl (Nat.ne_of_beq_eq_false h)).symm
theorem qU {α:Type} (d:α):∀(l:List α) (i:Nat),nth d l i=(l[i]?).getD d
 |[],i=>by cases i<;>rfl
 |a::l,0=>rfl
 |a::l,i+1=>by
  rw[List.getElem?_cons_succ];exact qU d l i
theorem wE {l:List Nat} {n a:Nat}:∀{es:List Edge},bit (iS l n es) a=true->∃e∈es,ik e=true/\(a=e.on\/bit (nth 0 l (n-1-e.on)) a=true)
 |[],h=>by
  rw[qn] at h;have:iS l n []=0:=rfl;rw[this] at h;simp at h
 |e::es,h=>by
  have h:bit (bif ik e then Nat.lor (iS l n es) (Nat.lor (Nat.pow 2 e.on) (nth 0 l (Nat.sub (Nat.sub n 1) e.on))) else iS l n es) a=true:=h;have ih:bit (iS l n es) a=true->∃e'∈e::es,ik e'=true/\(a=e'.on\/bit (nth 0 l (n-1-e'.on)) a=true):=λh=>by
   obtain⟨e',h1,h2⟩:=wE h;exact⟨e',ady _ h1,h2⟩
  cases hb:ik e with
  |false=>rw[hb] at h;exact ih h
  |true=>
   rw[hb,cond_true] at h;have h':bit (iS l n es|||(2^e.on|||nth 0 l (n-1-e.on))) a=true:=h;rw[qn,Nat.testBit_or,Nat.testBit_or,aec,aec] at h';rcases h' with h'|h'|h'
   ·exact ih (by rw[qn];exact h')
   ·rw[Nat.testBit_two_pow] at h';exact⟨e,adt ..,hb, .inl (by simp at h';exact h'.symm)⟩
   ·exact⟨e,adt ..,hb, .inr (by rw[qn];exact h')⟩
theorem tI:∀(ops:List Oper) (acc:List Nat) (n:Nat),∃ms:List Nat,pN ops acc n=ms.reverse++acc/\ms.length=ops.length/\∀j o,ops[j]? =some o->ms[j]? =some (iS ((ms.take j).reverse++acc) (n+j) o.after.toList)
 |[],acc,n=>⟨[],rfl,rfl,λj o h=>by cases h⟩
 |o::ops,acc,n=>by
  obtain⟨ms,h1,h2,h3⟩:=tI ops (iS acc n o.after.toList::acc) (n+1);refine⟨iS acc n o.after.toList::ms,?_,by rw[adB,adB,h2],λj o' hj=> ?_⟩
  ·show pN ops (iS acc n o.after.toList::acc) (Nat.succ n)=_;rw[h1,List.reverse_cons,adQ];rfl
  ·cases j with
   |zero=>cases hj;rfl
   |succ j=>
    have:=h3 j o' hj;rw[List.getElem?_cons_succ,this,List.take_succ_cons,List.reverse_cons,adQ,show n+1+j=n+(j+1) by omega];rfl
theorem pj:∀{ops:List Oper} {n:Nat},kQ ops n=true->∀j o,ops[j]? =some o->∀e∈o.after.toList,ik e=true->e.on<n+j
 |[],_,_,_,_,h=>by cases h
 |o::ops,n,h,j,o',hj=>by
  have h':(o.after.toList.all (λe=> !ik e||Nat.ble (Nat.succ e.on) n)&&kQ ops (Nat.succ n))=true:=h;rw[adr] at h';cases j with
  |zero=>
   cases hj;intro e he hb;have:=adE.1 h'.1 e he;rw[hb] at this;have:=adv this;omega
  |succ j=>
   intro e he hb;have:=pj h'.2 j o' hj e he hb;omega
def Ka (ops:Array Oper) (i:Nat):Nat:=nth 0 (pN ops.toList [] 0).reverse i
theorem Ho {ops:Array Oper} (hb:kQ ops.toList 0=true) {i a:Nat} {o:Oper} (ho:ops[i]? =some o) (h:bit (Ka ops i) a=true):∃e∈o.after.toList,ik e=true/\e.on<i/\(a=e.on\/bit (Ka ops e.on) a=true):=by
 obtain⟨ms,h1,h2,h3⟩:=tI ops.toList [] 0;have hm:∀j,Ka ops j=(ms[j]?).getD 0:=λj=>by
  unfold Ka;rw[qU,h1];simp
 have ho':ops.toList[i]? =some o:=by rw[adU];exact ho
 have hi:=h3 i o ho';rw[hm,hi] at h;obtain⟨e,e1,e2,e3⟩:=wE h;have iJ:e.on<i:=by have:=pj hb i o ho' e e1 e2;omega
 refine⟨e,e1,e2,iJ,e3.imp id λh=> ?_⟩;rw[hm];have K4:i<ms.length:=by rw[h2];exact(aee.1 ho').1
 rw[qU,adP] at h;have:((ms.take i).reverse)[0+i-1-e.on]? =ms[e.on]? :=by
  have hl:(ms.take i).length=i:=by rw[adY];omega
  rw[List.getElem?_reverse ade,hl,List.getElem?_take];rw[adh];congr 1;omega
 rw[this] at h;exact h
theorem FX {P:Program} {ops:Array Oper} {ms:List Nat}:∀{l:List Oper} {i0:Nat} {x:Dr},x∈Y8 P ops ms l i0->∃j o,l[j]? =some o/\x=⟨i0+j,o,cls P o.op,nth 0 ms (i0+j),f_ ops o⟩
 |[],_,_,h=>by cases h
 |o::l,i0,x,h=>by
  have h':x∈(⟨i0,o,cls P o.op,nth 0 ms i0,f_ ops o⟩:Dr)::Y8 P ops ms l (Nat.succ i0):=h;rcases adK.1 h' with rfl|h'
  ·exact⟨0,o,rfl,rfl⟩
  ·obtain⟨j,o',h1,h2⟩:=FX h';exact⟨j+1,o',h1,by rw[h2,show Nat.succ i0+j=i0+(j+1) by omega]⟩
theorem zp {D:Nat} {x:Dr} {no:Option Dr}:∀{l:List Dr},D7 D l no=some x->x∈l\/no=some x
 |[],h=> .inr h
 |y::l,h=>by
  have h:(bif ready D y&&Nat.ble y.c 2 then some y else D7 D l no)=some x:=h;cases hb:ready D y&&Nat.ble y.c 2 with
  |true=>rw[hb] at h;cases h;exact .inl adt
  |false=>rw[hb] at h;exact(zp h).imp (ady _) id
theorem zn {D:Nat} {x:Dr}:∀{l:List Dr},D6 D l=some x->x∈l
 |[],h=>by cases h
 |y::l,h=>by
  have h:(bif ready D y then some y else D6 D l)=some x:=h;cases hb:ready D y with
  |true=>rw[hb] at h;cases h;exact adt
  |false=>rw[hb] at h;exact ady _ (zn h)
theorem tX {i:Nat} {x:Dr}:∀{l:List Dr},x∈rM i l->x∈l
 |[],h=>by cases h
 |y::l,h=>by
  have h:x∈(bif Nat.beq y.i i then l else y::rM i l):=h;cases hb:Nat.beq y.i i with
  |true=>rw[hb] at h;exact ady _ h
  |false=>
   rw[hb] at h;rcases adK.1 h with rfl|h
   ·exact adt
   ·exact ady _ (tX h)
theorem zk {x:Dr}:∀(n D:Nat) (l:List Dr),x∈order n D l->x∈l
 |0,D,l,h=>by cases h
 |n+1,D,l,h=>by
  have h:x∈(match D7 D l (D6 D l) with|none=>[]|some x=>x::order n (Nat.lor D (Nat.pow 2 x.i)) (rM x.i l)):=h;split at h
  ·cases h
  ·rename_i z hz;rcases adK.1 h with rfl|h
   ·exact(zp hz).elim id zn
   ·exact tX (zk n _ _ h)
def Qf (P:Program) (ops:Array Oper):List Dr:=order ops.size 0 (Y8 P ops (pN ops.toList [] 0).reverse ops.toList 0)
theorem KI {P:Program} {ops:Array Oper} {x:Dr} (h:x∈Qf P ops):ops[x.i]? =some x.o/\x.c=cls P x.o.op/\x.m=Ka ops x.i/\x.r=f_ ops x.o:=by
 obtain⟨j,o,h1,h2⟩:=FX (zk _ _ _ h);rw[adI] at h2;subst h2;exact⟨by rw[<-adU];exact h1,rfl,rfl,rfl⟩
inductive yi (x y:Dr):List Dr->Prop
 |here {l:List Dr} (h:y∈l):yi x y (x::l)
 |next {l:List Dr} (z:Dr) (h:yi x y l):yi x y (z::l)
theorem JE {f:Dr->Dr->Bool} {x y:Dr} {l:List Dr} (a:yi x y l) (h:OD f l=true):f x y=true:=by
 induction a with
 |here hy=>
  have h:(_&&_)=true:=h;rw[adr] at h;exact adE.1 h.1 y hy
 |next z _ ih=>
  have h:(_&&_)=true:=h;rw[adr] at h;exact ih h.2
theorem vz {l:List Dr}:∀{n i:Nat},A4 n l=true->i<n->∃x∈l,x.i=i
 |0,_,_,h=>absurd h (adS _)
 |n+1,i,h,hi=>by
  have h:(l.any (λx=>Nat.beq x.i n)&&A4 n l)=true:=h;rw[adr] at h
  by_cases e:i=n
  ·obtain⟨x,h1,h2⟩:=List.any_eq_true.1 h.1;exact⟨x,h1,by rw[e];exact adu h2⟩
  ·exact vz h.2 ade
structure BN (x y:Dr):Prop where
 s1:∀d,x.o.dst=some d->y.o.dst≠some d/\(d∈y.r->bit y.m x.i=true\/bit x.m y.i=true)
 s2:∀d,y.o.dst=some d->x.o.dst≠some d/\(d∈x.r->bit x.m y.i=true\/bit y.m x.i=true)
 no:bit x.m y.i=false
 ne:x.i≠y.i
 b:bit y.m x.i=true\/(x.c<=2/\y.c<=3)
theorem xh {x y:Dr} (h:Bh x y=true) {d:Nat} (hd:x.o.dst=some d):y.o.dst≠some d/\(d∈y.r->bit y.m x.i=true\/bit x.m y.i=true):=by
 unfold Bh at h;rw[hd] at h;dsimp only at h;rw[adr] at h;refine⟨λe=> ?_,λhm=> ?_⟩
 ·rw[e] at h;have:(!Nat.beq d d)=true:=h.1;rw[Nat.beq_refl] at this;cases this
 ·have:=adE.1 h.2 d hm;rw[Nat.beq_refl,Bool.not_true,Bool.false_or,aec] at this;exact this
theorem E3 {l:List Dr} {n:Nat} (h:vA l n=true):(∀i,i<n->∃x∈l,x.i=i)/\(∀x∈l,x.c=2->∃d,x.o.dst=some d)/\∀x y,yi x y l->BN x y:=by
 unfold vA at h;rw[adr,adr] at h;obtain⟨h1,h2,h3⟩:=h;refine⟨λi hi=>vz h1 hi,λx hx hc=> ?_,λx y a=> ?_⟩
 ·have:=adE.1 h2 x hx;rw[hc] at this;exact Option.isSome_iff_exists.1 this
 ·have:=JE a h3;rw[adr,adr] at this;obtain⟨g1,g2,g3⟩:=this;unfold OC at g3;rw[adr,adr,aec,adr,adn,adn] at g3;obtain⟨k1,k2,k3⟩:=g3;exact⟨λd hd=>xh g1 hd,λd hd=>xh g2 hd,k1,Nat.ne_of_beq_eq_false k2,k3.imp id λ⟨a,b⟩=>⟨adv a,adv b⟩⟩
end
end Go.Proofs.YtbjcjppphoppfaaGreat.T
