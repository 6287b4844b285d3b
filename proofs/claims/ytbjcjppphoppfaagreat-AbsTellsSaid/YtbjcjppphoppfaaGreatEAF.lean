import Derived.Test.YtbjcjppphoppfaaGreatEAE
import Derived.Laws.Tables
set_option linter.all false
namespace Go.Proofs.YtbjcjppphoppfaaGreat.T
open Go
noncomputable section
theorem fF {X:Fx} {B:Bs} (I:bw X B) {l:List Nat} {H':List TE} (h:freeze B.H l=some H'):bo B ⟨B.F0,H',B.bs,B.w⟩/\bw X ⟨B.F0,H',B.bs,B.w⟩/\fL B.H H'/\∀j∈l,(nth .bu H' j).st=0:=by
 obtain⟨h1,h2⟩:=gK h;exact⟨h1.wq,I.vK h1,h1,h2⟩
def OwnAt (B:Bs) (k:Nat) (e:Ty):Prop:=(B.e k).st≠7/\(TB.row e (jg e)).hZ (B.e k).b/\B.b k=none
theorem OwnAt.r {B:Bs} {k:Nat} {e:Ty} (h:OwnAt B k e) {f:Nat->Value} {o:Nat} (hr:Zn (f o)):Rp B (.r k) f o:=by
 obtain⟨h1,h2,h3⟩:=h;refine⟨h1,?_⟩;revert h2;cases(B.e k).b with
 |row e' l=>
  rintro⟨rfl,h2⟩;show fH (B.b k) e.cells 0 (List.length l) (f o);rw[h3,<-h2];exact⟨by show 0<dU;decide,rfl,hr⟩
 |_=>exactλh=>h.elim
def ed (es:List Ty):List TE:=es.map λe=>⟨1, .row e (jg e)⟩
theorem HC:∀(t:Ty) (x:TV) {H H':List TE} {x':TV},t.pos=true->fit t x=true->own t x H=(x',H')->
 ∃es,H'=H++ed es/\(∀e∈es,1<=e.cells)/\fit t x'=true/\k_ x'=k_ x/\∀(B:Bs) f o,(∀i e,es[i]? =some e->OwnAt B (H.length+i) e)->Rp B x f o->Rp B x' f o:=by
 have keep:∀{t:Ty} {x:TV} {H H':List TE} {x':TV},fit t x=true->(x,H)=(x',H')->∃es,H'=H++ed es/\(∀e∈es,1<=e.cells)/\fit t x'=true/\k_ x'=k_ x/\∀(B:Bs) f o,(∀i e,es[i]? =some e->OwnAt B (H.length+i) e)->Rp B x f o->Rp B x' f o:=by
  intro t x H H' x' hf e;cases e;exact⟨[],(adP _).symm,λ_ h=>(by cases h),hf,rfl,λ_ _ _ _ h=>h⟩
 intro t
 induction t with
 |sl e ih=>
  intro x H H' x' hp hf ho;have hp:(Nat.ble 1 e.cells&&e.pos)=true:=hp;rw[adr] at hp;cases x with
  |nl=>
   have ho:(TV.r H.length,H++[(⟨1, .row e (jg e)⟩:TE)])=(x',H'):=ho;cases ho;exact⟨[e],rfl,λe' he=>by rw[adF.1 he];exact adv hp.1,rfl,rfl,λB f o h hr=>(h 0 e rfl).r ⟨_,hr⟩⟩
  |_=>exact keep hf ho
 |pr a c ih1 ih2=>
  intro x H H' x' hp hf ho;have hp:(a.pos&&c.pos)=true:=hp;rw[adr] at hp;cases x with
  |pr y z=>
   have hf:(fit a y&&fit c z)=true:=hf;rw[adr] at hf;have ho:(match own a y H with|(x,h)=>(match own c z h with|(y,h)=>(TV.pr x y,h)))=(x',H'):=ho;cases h1:own a y H with
   |mk y' H1=>
    rw[h1] at ho;obtain⟨es,e1,e2,f1,v1,r1⟩:=ih1 y hp.1 hf.1 h1;have ho:(match own c z H1 with|(z,h)=>(TV.pr y' z,h))=(x',H'):=ho;cases h2:own c z H1 with
    |mk z' H2=>
     rw[h2] at ho;cases ho;obtain⟨es2,e3,e4,f2,v2,r2⟩:=ih2 z hp.2 hf.2 h2;refine⟨es++es2,by rw[e3,e1,adQ,ed,ed,ed,List.map_append],λe he=>(adC.1 he).elim (e2 e) (e4 e),?_,rfl,λB f o h hr=>⟨r1 B f o (λi e he=>h i e (by rw[List.getElem?_append_left (aee.1 he).1];exact he)) hr.1,?_⟩⟩
     ·show(fit a y'&&fit c z')=true;rw[adr];exact⟨f1,f2⟩
     ·have:=r2 B f (o+y.cells) (λi e he=> ?_) hr.2
      ·rw[(cV a y hf.1).1] at this;rw[(cV a y' f1).1];exact this
      ·have:=h (es.length+i) e (by rw[List.getElem?_append_right ade,ae1];exact he);rw[e1,ado,ed,ae0,adV];exact this
  |_=>exact keep hf ho
 |gv=>
  intro x H H' x' hp hf ho;unfold own at ho;split at ho
  all_goals first|contradiction|skip
  all_goals first|(rename_i heq _;cases heq;done)|skip
  ·rename_i a b d z _;cases ho;obtain⟨a',b',d',x',f',g1,f1,f2,f3,f4,f5,_,_,_⟩:=gv5 hf;have g1:TV.pr a (.pr b (.pr d (.pr .nl z)))= .pr a' (.pr b' (.pr d' (.pr x' (.pr f' .un)))):=g1;cases g1;refine⟨[.gv],rfl,λe' he=>by rw[adF.1 he];decide,?_,rfl,λB f o h hr=> ?_⟩
   ·rw[Ar];simp only[adr];exact⟨f1,f2,f3,rfl,f5⟩
   ·obtain⟨r1,r2,r3,r4,r5⟩:=hr;exact⟨r1,r2,r3,(h 0 .gv rfl).r ⟨_,r4⟩,r5⟩
  ·exact keep hf ho
 |_=>intro x H H' x' hp hf ho;exact keep hf ho
theorem Kq {X:Fx} {B:Bs} (I:bw X B) {e:Ty} (he:1<=e.cells):bo B (B.add (.row e (jg e)) none B.w)/\bw X (B.add (.row e (jg e)) none B.w):=by
 refine I.add (λb _=>rfl) (adw _) (dY.refl _) (λb s e=>by cases e) λL=> ?_
 intro _;exact⟨by show 0<dU;decide,he, .inl ⟨rfl,rfl⟩⟩
theorem AT {X:Fx}:∀(es:List Ty) {B:Bs},bw X B->(∀e∈es,1<=e.cells)->∃B',B'.H=B.H++ed es/\B'.w=B.w/\bo B B'/\bw X B'/\(∀j,j<B.H.length->B'.e j=B.e j/\B'.b j=B.b j)/\∀i e,es[i]? =some e->OwnAt B' (B.H.length+i) e
 |[],B,I,_=>⟨B,(adP _).symm,rfl,bo.refl B,I,λ_ _=>⟨rfl,rfl⟩,λ_ _ h=>by simp at h⟩
 |a::es,B,I,h=>by
  obtain⟨L,I'⟩:=Kq I (h a adt);obtain⟨B',h1,h2,h3,h4,h5,h6⟩:=AT es I' λe he=>h e (ady _ he)
  have hl:(B.add (.row a (jg a)) none B.w).H.length=B.H.length+1:=eB _ _;refine⟨B',by rw[h1];show(B.H++[_])++_=_;rw[adQ];rfl,h2,L.trans h3,h4,λj hj=> ?_,λi e he=> ?_⟩
  ·obtain⟨k1,k2⟩:=h5 j (by rw[hl];omega);exact⟨k1.trans (YV j hj),k2.trans (YU j (by rw[I.len];exact hj))⟩
  ·cases i with
   |zero=>
    cases he;obtain⟨k1,k2⟩:=h5 B.H.length (by rw[hl];omega);show OwnAt B' B.H.length a;unfold OwnAt;rw[k1,k2,mU,r_ I.len];exact⟨show 1≠7 by decide,cu _,rfl⟩
   |succ i=>
    have:=h6 i e (by simpa using he);rw[hl] at this;rw[show B.H.length+(i+1)=B.H.length+1+i by omega];exact this
theorem tO {b:Nat}:∀(vs:List Value) (o:Nat) (w:World) (c:Array Value) (T:TypeId) (fz:Nat×Nat),w.heap[b]? =some (.cells c T fz)->
 ∃c',(w.setCells b o vs).heap[b]? =some (.cells c' T fz)/\c'.size=c.size/\∀j,c'[j]? =if o<=j/\j<o+vs.length/\j<c.size then vs[j-o]? else c[j]?
 |[],o,w,c,T,fz,h=>⟨c,h,rfl,λj=>by rw[adq (by simp only[adR];omega)]⟩
 |v::r,o,w,c,T,fz,h=>by
  have h1:(w.setCell ⟨b,o,none⟩ v).heap[b]? =some (.cells (c.setIfInBounds o v) T fz):=by
   simp only[World.setCell,Array.getElem?_modify,h];simp
  obtain⟨c',h2,h3,h4⟩:=tO r (o+1) _ _ _ _ h1;refine⟨c',h2,by rw[h3,Array.size_setIfInBounds],λj=> ?_⟩;rw[h4 j,Array.size_setIfInBounds,Array.getElem?_setIfInBounds]
  by_cases e:j=o
  ·subst e;rw[adi]
   by_cases hj:j<c.size
   ·rw[adp rfl,adp hj,adp ⟨adw _,by simp only[adB];omega,hj⟩,aep];rfl
   ·rw[adp rfl,adq hj,adi,Array.getElem?_eq_none ade]
  ·by_cases e1:o+1<=j/\j<o+1+r.length/\j<c.size
   ·rw[adp e1,adp (by simp only[adB];omega),show j-o=(j-(o+1))+1 by omega];rfl
   ·rw[adq e1,adq (Ne.symm e),adq (by simp only[adB];omega)]
theorem tQ {b c:Nat} (h:c≠b):∀(vs:List Value) (o:Nat) (w:World),(w.setCells b o vs).heap[c]? =w.heap[c]?
 |[],_,_=>rfl
 |v::r,o,w=>by
  rw[World.setCells,tQ h r];simp only[World.setCell,Array.getElem?_modify];rw[adq (Ne.symm h)]
theorem pe {b:Nat}:∀(vs:List Value) (o:Nat) (w:World),(w.setCells b o vs).heap.size=w.heap.size
 |[],_,_=>rfl
 |v::r,o,w=>by rw[World.setCells,pe r];simp only[World.setCell,Array.size_modify]
theorem tP {b:Nat}:∀(vs:List Value) (o:Nat) (w:World),dY w (w.setCells b o vs)
 |[],_,w=>dY.refl w
 |v::r,o,w=>by rw[World.setCells];exact dY.trans ⟨rfl,rfl⟩ (tP r _ _)
structure yr (b q:Nat) (vs:List Value) (w w':World) (cs cs':Array Value) (T:TypeId) (fz:Nat×Nat):Prop where
 ne:∀c,c≠b->w'.heap[c]? =w.heap[c]?
 Y7:w'.heap[b]? =some (.cells cs' T fz)
 hz:w'.heap.size=w.heap.size
 io:dY w w'
 size:cs'.size=cs.size
 cell:∀i,fw cs' i=if q<=i/\i<q+vs.length then cl vs (i-q) else fw cs i
 one:qi cs->qi cs'
theorem wrote {P:Program} {b q:Nat} {vs:List Value} {w:World} {cs:Array Value} {T:TypeId} {fz:Nat×Nat} (h:w.heap[b]? =some (.cells cs T fz)) (hw:UH cs fz) (hq:q+vs.length<=cs.size) (h1:∀u∈vs,u.oneCell'=true):
 ∃cs',(storeCells ⟨b,q,none⟩ vs).run P w= .ok () (w.setCells b q vs)/\yr b q vs w (w.setCells b q vs) cs cs' T fz:=by
 obtain⟨cs',g1,g2,g3⟩:=tO vs q w cs T fz h;refine⟨cs',?_,⟨λc hc=>tQ hc vs q w,g1,pe vs q w,tP vs q w,g2,λi=> ?_,λho u hu=> ?_⟩⟩
 ·have:=run_storeCells_cells (P:=P) b q vs 0 w (λj hj=> ?_) (λj hj=> ?_) h1
  ·simpa only[ae9] using this
  ·rw[ae9,qu h,adX ade];rfl
  ·rw[ae9];simp only[World.frozen?,h];simp only[ae6,adj];rcases hw with hw|hw<;>omega
 ·unfold fw cl;rw[adD,adD,adG,g3]
  by_cases e:q<=i/\i<q+vs.length
  ·rw[adp e,adp ⟨e.1,e.2,ade⟩]
  ·rw[adq e,adq (λk=>e ⟨k.1,k.2.1⟩)]
 ·obtain⟨i,hi,rfl⟩:=Array.mem_iff_getElem.1 hu;have e:=g3 i;rw[adX hi] at e;split at e
  ·exact h1 _ (List.mem_of_getElem? e.symm)
  ·exact ho _ (Array.mem_of_getElem? e.symm)
theorem iZ {ag:Bool} {n:Nat} {v:Value} (h:xI ag n v):v.cells.size=n/\qi v.cells/\∀i,i<n->cl v.cells.toList i=cv v i:=by
 cases ag with
 |true=>
  obtain⟨cs,rfl,h1,h2⟩:=h;exact⟨h1,h2,λi _=>by show cl cs.toList i=_;rw[gT];rfl⟩
 |false=>
  obtain⟨h1,h2⟩:v.oneCell'=true/\n=1:=h;have e:v.cells= #[v]:=by cases v<;>first|rfl|cases h1
  rw[e];refine⟨h2.symm,λu hu=> ?_,λi hi=> ?_⟩
  ·rw[Array.mem_singleton] at hu;rw[hu];exact h1
  ·obtain rfl:i=0:=by omega
   rw[pv h1];rfl
theorem Dp {T:CT} {t:TypeId} {x:TV} (e:Bj T t x=true):k_ x=true/\x.cells=cg T.P t/\1<=cg T.P t:=by
 unfold Bj at e;simp only[adr] at e;obtain⟨h1,h2,h3⟩:=e;have h2:=adu h2;exact⟨h1,h2,by rw[<-h2];exact adv h3⟩
theorem t8 {P:Program} {X:Fx} {B:Bs} (I:bw X B) {t:TypeId} {j b q s:Nat} {ag:Bool} {v:Value} {tb:TB} (hE:(B.e j).st=1) (hb:B.b j=some (b,s)) (h1:1<=cg P t) (hv:xI ag (cg P t) v) (hq:q+cg P t<=s) (hm:∀c,(B.e j).b≠ .box cO c) (hl:(B.e j).b.hZ tb)
 (hB:∀w' cs cs' T fz,s=cs.size->B.w.heap[b]? =some (.cells cs T fz)->yr b q v.cells.toList B.w w' cs cs' T fz->UH cs fz->bo B (B.set j ⟨1,tb⟩ w')->lg (B.set j ⟨1,tb⟩ w') ⟨1,tb⟩ (some (b,s))):
 ∃w',(Instr.storeAt t (.pointer (some ⟨b,q,none⟩)) v).run P B.w= .ok () w'/\bo B (B.set j ⟨1,tb⟩ w')/\bw X (B.set j ⟨1,tb⟩ w'):=by
 have H:=I.bP j;rw[hb] at H;obtain⟨cs,T,fz,e1,e2,e3⟩:=H.a0B ade hm;have hw:=e3 ade;obtain⟨c1,c2,c3⟩:=iZ hv;obtain⟨cs',r1,W⟩:=wrote (P:=P) (q:=q) (vs:=v.cells.toList) e2 hw (by rw[Array.length_toList,c1,<-e1];exact hq) (λu hu=>c2 u (Array.mem_toList_iff.1 hu));obtain⟨i,_,hi,hs⟩:=rF h1;refine⟨_,?_,I.put hE (λc hc=>W.ne c λe=>hc s (by rw[e];exact hb)) W.hz W.io ⟨show 1≠7 by decide,hl⟩ λL _=>by rw[hb];exact hB _ cs cs' T fz e1 e2 W hw L⟩;rw[Instr.storeAt,Sem.run_bind,ri];show(storeVar t ⟨b,q,none⟩ v).run P B.w=_;have hsz':v.cells.size=i.size:=by rw[c1,hs]
 unfold storeVar;simp[sizeOf,typeInfo,hi,hsz',r1]
theorem yr.tC {ag:Bool} {b q n:Nat} {v:Value} {w w':World} {cs cs':Array Value} {T:TypeId} {fz:Nat×Nat} (W:yr b q v.cells.toList w w' cs cs' T fz) (hv:xI ag n v) {B:Bs} {x:TV} (hc:x.cells=n) (hr:Rp B x (cv v) 0):Rp B x (fw cs') q:=by
 obtain⟨c1,c2,c3⟩:=iZ hv;refine Rp.dP x (λi hi=> ?_) hr;rw[W.cell,adp (by rw[Array.length_toList,c1];omega),adI,ae1];exact c3 i ade
theorem yr.out {ag:Bool} {b q n:Nat} {v:Value} {w w':World} {cs cs':Array Value} {T:TypeId} {fz:Nat×Nat} (W:yr b q v.cells.toList w w' cs cs' T fz) (hv:xI ag n v) {i:Nat} (hi:i<q\/q+n<=i):fw cs' i=fw cs i:=by
 obtain⟨c1,_,_⟩:=iZ hv;rw[W.cell,adq (by rw[Array.length_toList,c1];omega)]
theorem a05 {B:Bs} {H':List TE} (F:fL B.H H') {j:Nat} {tb bb:TB} {st:Nat} (hE:B.e j=⟨st,tb⟩) (hn:nth .bu H' j=⟨1,bb⟩):nth .bu H' j=⟨1,tb⟩:=by
 have e1:=F.b j;rw[show nth .bu B.H j=⟨st,tb⟩ from hE,hn] at e1;have e1:bb=tb:=e1;rw[hn,e1]
theorem JY {T:CT} {X:Fx} {B:Bs} (I:bw X B) {s s':TS} (hH:s.hp=B.H) {t:TypeId} {a x:TV} {p v:Value} (h:nM T s t a x some=some s') (ha:Rv B a p) (hx:Rv B x v):
 ∃B',s'=⟨s.fr,B'.H⟩/\bo B B'/\bw X B'/\(Instr.storeAt t p v).run T.P B.w= .ok () B'.w:=by
 unfold nM at h;obtain⟨hso,h2⟩:=aQ h;clear h;obtain⟨v1,v2,v3⟩:=Dp hso;rw[gI v1] at hx;obtain⟨w1,w2⟩:=hx;rw[v2] at w1;split at h2;rotate_left
 ·cases h2
 rename_i j w;obtain⟨k7,b,sz,q,g1,g2,rfl⟩:=YC ha;rw[show s.bP j=B.e j by unfold TS.bP Bs.e;rw[hH],hH] at h2;split at h2
 ·rename_i e l hE;split at h2;rotate_left
  ·cases h2
  rename_i n w;split at h2;rotate_left
  ·cases h2
  rename_i u hu;obtain⟨hc,h3⟩:=aQ h2;clear h2;rw[adr] at hc;split at h3;rotate_left
  ·cases h3
  ·cases h3
  rename_i H1 y' hf hs;split at h3;rotate_left
  ·cases h3
  rename_i yv hv;split at h3;rotate_left
  ·cases h3
  rename_i bb hn;rw[hE] at g2;have g2:(if n<List.length l then(match e.off w with|some q=>some (n*e.cells+q)|none=>none) else none)=some q:=g2;split at g2;rotate_left
  ·cases g2
  rename_i Jf;cases hq:e.off w with
  |none=>rw[hq] at g2;cases g2
  |some q'=>
   rw[hq] at g2;cases g2;obtain⟨L1,I1,F1,fz⟩:=fF I hf;have hE1:(⟨B.F0,H1,B.bs,B.w⟩:Bs).e j=⟨1, .row e l⟩:=a05 F1 hE hn;have H:=I.bP j;rw[hE,g1] at H;obtain⟨b1,b2,b3|⟨b',cs0,T0,fz0,m1,m2,m3,m4,m5⟩⟩:=H (show 1<=2 by decide)
   ·cases b3.1
   cases m1;obtain⟨q1,q2,q3,q4⟩:=iU I1 (H0:=B.H) w e (.v e (a8 (e:=e) l n)) (λ_=>⟨F1,fz⟩) (dk _ _) hu hq hc.1 hs;have Yv:u.cells=cg T.P t:=by rw[<-(cV u x hc.1).1,v2]
   have k5:=ot (z:=e.cells) Jf;obtain⟨w',r0,L2,I2⟩:=t8 (P:=T.P) (t:=t) I1 (tb:= .row e (ae (e:=e) l n yv)) (q:=n*e.cells+q') (by rw[hE1]) g1 v3 w1 (by rw[<-Yv];omega) (by rw[hE1];exactλ_ e=>(by cases e)) (by
    rw[hE1];refine⟨rfl,?_⟩;show _=List.length (List.set l n yv)
    rw[List.length_set]) (λw' cs cs' T' fz' c1 c2 W hw L=>by
     intro _;have m2':some (Obj.cells cs0 T0 fz0)=some (.cells cs T' fz'):=m2.symm.trans c2;cases m2';have hlen:List.length (List.set l n yv)=List.length l:=List.length_set;refine⟨by show List.length (List.set l n yv)<_;rw[hlen];exact b1,b2, .inr ⟨b,cs',T0,fz0,by rw[W.size],W.Y7,λ_=>by rcases hw with hw|hw;(·exact .inl hw);exact .inr (by rw[W.size];exact hw),?_,?_⟩⟩
     ·show List.length (List.set l n yv)*e.cells<=_;rw[hlen,W.size];exact m4
     ·have r1:bQ (bI (⟨B.F0,H1,B.bs,B.w⟩:Bs).F B.w e) e.cells l (fw cs0) 0:=bQ.mono (bI.mono L1.k e) l _ _ m5;have r2:bI (⟨B.F0,H1,B.bs,B.w⟩:Bs).F B.w e (a8 (e:=e) l n) (fw cs0) (0+n*e.cells):=bQ.nth (P:=bI (⟨B.F0,H1,B.bs,B.w⟩:Bs).F B.w e) r1 (mu Jf);have r3:Rp (⟨B.F0,H1,B.bs,B.w⟩:Bs) y' (fw cs') (0+n*e.cells):=by
       refine q4 (fw cs0) (fw cs') _ r2 (λi hi hi'=>W.out w1 (by rw[<-Yv];omega)) ?_;rw[adI];exact W.tC w1 v2 (Rp.mono L1 _ _ _ w2)
      have EP:=(du e y' hv).vK (B:=⟨B.F0,H1,B.bs,B.w⟩) F1;have r4:=EP.rep I1 (G:=(⟨B.F0,H1,B.bs,B.w⟩:Bs).F) (λb hb=>hb) hc.2 (λj hj b s hb=>by
       rcases q3 j hj with hj|hj
       ·cases hj
       ·exact gV I1 (fz j hj) hb) r3
      have r5:bQ (bI (⟨B.F0,H1,B.bs,B.w⟩:Bs).F B.w e) e.cells (ae (e:=e) l n yv) (fw cs') 0:=x6 (l:=l) r1 (λi hi hi'=>W.out w1 (by rw[<-Yv];omega)) r4;exact bQ.mono (bI.mono L.k e) _ _ _ r5)
   exact⟨_,(Option.some.inj h3).symm,L1.trans L2,I2,r0⟩
 ·rename_i ty c hE;split at h2;rotate_left
  ·cases h2
  rename_i u hu;obtain⟨hc,h3⟩:=aQ h2;clear h2;rw[adr] at hc;rw[hE] at g2;have H:=I.bP j;rw[hE,g1] at H;have g2:(if ty=cO then none else ty.off w)=some q:=g2;split at g2
  ·cases g2
  rename_i Je;obtain⟨b1,⟨_,b',cs0,T0,fz0,m1,m2,m3,m4,m0,m5⟩|⟨hm',_⟩⟩:=H (show 1<=2 by decide);rotate_left
  ·exact absurd hm' Je
  cases m1;have Yv:u.cells=cg T.P t:=by rw[<-(cV u x hc.1).1,v2]
  have fin:∀{B1:Bs} {x' c':TV},bw X B1->bo B B1->B1.w=B.w->B1.e j=⟨1, .box ty c⟩->B1.b j=some (b,cs0.size)->fit u x'=true->Rp B1 x' (cv v) 0->fit ty c'=true->q+u.cells<=ty.cells->
   (∀(f f':Nat->Value) (o:Nat),Rp B1 c f o->(∀i,i<ty.cells->(i<q\/q+u.cells<=i)->f' (o+i)=f (o+i))->Rp B1 x' f' (o+q)->Rp B1 c' f' o)->
   some (⟨s.fr,setAt ⟨1, .box ty c'⟩ B1.H j⟩:TS)=some s'->∃B',s'=⟨s.fr,B'.H⟩/\bo B B'/\bw X B'/\(Instr.storeAt t (.pointer (some ⟨b,q,none⟩)) v).run T.P B.w= .ok () B'.w:=by
   intro B1 x' c' I1 L1 e1 e2 e3 f1 f2 f3 f4 f5 hk;obtain⟨w',r0,L2,I2⟩:=t8 (P:=T.P) (t:=t) I1 (tb:= .box ty c') (q:=q) (ag:=x.ag) (v:=v) (by rw[e2]) e3 v3 w1 ade (by rw[e2];exactλ_ e=>Je (by injection e)) (by rw[e2];rfl) (λw' cs cs' T' fz' c1 c2 W hw L=>by
    intro _;rw[e1] at c2;have m2':some (Obj.cells cs0 T0 fz0)=some (.cells cs T' fz'):=m2.symm.trans c2;cases m2';refine⟨f3, .inl ⟨Je,?_⟩⟩;refine⟨b,cs',T0,fz0,by rw[W.size],W.Y7,λ_=>by rcases hw with hw|hw;(·exact .inl hw);exact .inr (by rw[W.size];exact hw),by rw[W.size];exact m4,W.one m0,?_⟩;refine Rp.mono L _ _ _ (f5 (fw cs0) (fw cs') 0 (Rp.mono L1 _ _ _ m5) (λi hi hi'=> ?_) ?_)
    ·rw[adI];exact W.out w1 (by rw[<-Yv];omega)
    ·rw[adI];exact W.tC w1 (by rw[(cV u x' f1).1,Yv]) f2)
   refine⟨_,(Option.some.inj hk).symm,L1.trans L2,I2,?_⟩;rw[<-e1];exact r0
  cases hw:Na w with
  |true=>
   rw[hw] at h3;have h3:(match own u x B.H with|(x,h)=>(match setPath B.H x w c with|some c=>some (⟨s.fr,setAt ⟨1, .box ty c⟩ h j⟩:TS)|none=>none))=some s':=h3;cases ho:own u x B.H with
   |mk x' H1=>
    rw[ho] at h3;have h3:(match setPath B.H x' w c with|some c=>some (⟨s.fr,setAt ⟨1, .box ty c⟩ H1 j⟩:TS)|none=>none)=some s':=h3;split at h3;rotate_left
    ·cases h3
    rename_i c' hs;obtain⟨es,p1,p2,o6,_,p3⟩:=HC u x hc.2 hc.1 ho;obtain⟨B1,o1,o2,o3,o4,o5,o7⟩:=AT es I p2;obtain⟨q1,q2,q3,q4⟩:=iU o4 (H0:=B.H) w ty c (λe=>by rw[hw] at e;cases e) b1 hu g2 o6 hs;have hj:j<B.H.length:=jB k7;refine fin o4 o3 o2 ((o5 j hj).1.trans hE) ((o5 j hj).2.trans g1) o6 (p3 B1 _ _ o7 (Rp.mono o3 _ _ _ w2)) q1 q2 q4 ?_;rw[o1,<-p1];exact h3
  |false=>
   rw[hw] at h3;have h3:(match freeze B.H (ids x),setPath B.H x w c with
         |some h,some c=>(match nth .bu h j with|⟨1,_⟩=>some (⟨s.fr,setAt ⟨1, .box ty c⟩ h j⟩:TS)|_=>none)
         |none,_=>none
         |_,_=>none)=some s':=h3
   split at h3;rotate_left
   ·cases h3
   ·cases h3
   rename_i H1 c' hf hs;split at h3;rotate_left
   ·cases h3
   rename_i bb hn;obtain⟨L1,I1,F1,fz⟩:=fF I hf;obtain⟨q1,q2,q3,q4⟩:=iU I1 (H0:=B.H) w ty c (λ_=>⟨F1,fz⟩) b1 hu g2 hc.1 hs;exact fin I1 L1 rfl (a05 F1 hE hn) g1 hc.1 (Rp.mono L1 _ _ _ w2) q1 q2 q4 h3
 ·rename_i c hE;obtain⟨hc,h3⟩:=aQ h2;clear h2;simp only[adr] at hc;obtain⟨c1,c2,c3⟩:=hc;have c1:w=[]:=by cases w with
   |nil=>rfl
   |cons _ _=>cases c1
  subst c1;have c2:=adu c2;rw[hE] at g2;have g2:some 0=some q:=g2;cases g2;have H:=I.bP j;rw[hE,g1] at H;obtain⟨b1,b',cs0,T0,fz0,m1,m2,m3,m4,m0,m5⟩:=H (show 1<=2 by decide);cases m1;obtain⟨w',r0,L2,I2⟩:=t8 (P:=T.P) (t:=t) I (tb:= .any x) (q:=0) (ag:=x.ag) (v:=v) (by rw[hE]) g1 v3 w1 ade (by rw[hE];exactλ_ e=>(by cases e)) (by rw[hE];trivial) (λw' cs cs' T' fz' d1 d2 W hw L=>by
   intro _;have m2':some (Obj.cells cs0 T0 fz0)=some (.cells cs T' fz'):=m2.symm.trans d2;cases m2';exact⟨c2,b,cs',T0,fz0,by rw[W.size],W.Y7,λ_=>by rcases hw with hw|hw;(·exact .inl hw);exact .inr (by rw[W.size];exact hw),by rw[W.size];exact m4,W.one m0,Rp.mono L _ _ _ (W.tC w1 v2 w2)⟩)
  exact⟨_,(Option.some.inj h3).symm,L2,I2,r0⟩
 ·cases h2
end
noncomputable section
theorem x8 {k:Nat} (h:k<=3):ix k 0:=by
 have:=pO (k:=k);have _:=h;exact⟨ade,ade⟩
structure Cut (n:Nat) (l r:List Value):Prop where
 len:l.length=n+r.length
 nth:∀j,cl r j=cl l (n+j)
theorem Cut.zero (l:List Value):Cut 0 l l:=⟨(adI _).symm,λj=>by rw[adI]⟩
theorem Cut.one (v:Value) (r:List Value):Cut 1 (v::r) r:=⟨by rw[adB];omega,λj=>by rw[Nat.add_comm];rfl⟩
theorem Cut.trans {m n:Nat} {l r q:List Value} (h:Cut m l r) (h':Cut n r q):Cut (m+n) l q:=⟨by rw[h.len,h'.len,adV],λj=>by rw[h'.nth,h.nth,adV]⟩
theorem mq {k:Nat} {v:Value} (h:kZ k v=true):v= .int (kd k) 0:=by
 unfold kZ at h;split at h
 ·rename_i q n;rw[adr] at h;have e1:=adu h.1;have e2:=aed h.2;rw[e2,<-e1,CC]
 ·cases h
theorem wo {v:Value} (h:sF v=true):∃s,v= .string s/\[]=bZ s:=by
 unfold sF at h;split at h
 ·rename_i s;have e1:=adu h;exact⟨s,rfl,(aeh (by rw[dv];exact e1)).symm⟩
 ·cases h
theorem sE {v:Value} (h:wm v=true):v= .slice none 0 0:=by
 unfold wm at h;split at h
 ·rfl
 ·cases h
theorem Cw {v:Value} (h:Jn v=true):v= .bool false:=by
 unfold Jn at h;split at h
 ·rename_i b;cases b
  ·rfl
  ·cases h
 ·cases h
theorem a9q:Zn (.slice none 0 0):=⟨none,rfl⟩
theorem DG {e:Ty} (ih:∀(l r:List Value),isZero e l=some r->Cut e.cells l r/\(∀F w c o,(∀j,j<e.cells->c (o+j)=cl l j)->bI F w e e.zero c o)):∀(n:Nat) (l r:List Value),isZero.zeros (isZero e) n l=some r->
 Cut (n*e.cells) l r/\∀F w c o,(∀j,j<n*e.cells->c (o+j)=cl l j)->bQ (bI F w e) e.cells (List.replicate n e.zero) c o
 |0,l,r,h=>by
  have h:some l=some r:=h;cases h;rw[aen];exact⟨Cut.zero l,λ_ _ _ _ _=>trivial⟩
 |n+1,l,r,h=>by
  have h:(match isZero e l with|some l=>isZero.zeros (isZero e) n l|none=>none)=some r:=h;cases h1:isZero e l with
  |none=>rw[h1] at h;cases h
  |some l1=>
   rw[h1] at h;obtain⟨g1,g2⟩:=ih l l1 h1;obtain⟨g3,g4⟩:=DG ih n l1 r h;have e1:(n+1)*e.cells=e.cells+n*e.cells:=by rw[aei,aeo,Nat.add_comm]
   rw[e1];refine⟨g1.trans g3,λF w c o hc=>⟨g2 F w c o λj hj=>hc j ade,g4 F w c _ λj hj=> ?_⟩⟩;rw[g1.nth,adV];exact hc _ ade
theorem rR:∀(t:Ty),t.pos=true->∀(l r:List Value),isZero t l=some r->Cut t.cells l r/\(∀F w c o,(∀j,j<t.cells->c (o+j)=cl l j)->bI F w t t.zero c o)/\∀B c o,(∀j,j<t.cells->c (o+j)=cl l j)->Rp B (iF t) c o
 | .pr a d,hp,l,r,h=>by
   have hp:(a.pos&&d.pos)=true:=hp;rw[adr] at hp;have h:(match isZero a l with|some l=>isZero d l|none=>none)=some r:=h;cases h1:isZero a l with
   |none=>rw[h1] at h;cases h
   |some l1=>
    rw[h1] at h;obtain⟨g1,g2,g3⟩:=rR a hp.1 l l1 h1;obtain⟨k1,k2,k3⟩:=rR d hp.2 l1 r h;refine⟨g1.trans k1,λF w c o hc=>⟨g2 F w c o λj hj=>hc j (by show j<a.cells+d.cells;omega),k2 F w c _ λj hj=> ?_⟩,λB c o hc=>⟨g3 B c o λj hj=>hc j (by show j<a.cells+d.cells;omega),?_⟩⟩
    ·rw[g1.nth,adV];exact hc _ (by show _<a.cells+d.cells;omega)
    ·have e:(iF a).cells=a.cells:=zcells a;rw[e];refine k3 B c _ λj hj=> ?_
     rw[g1.nth,adV];exact hc _ (by show _<a.cells+d.cells;omega)
 | .un,_,l,r,h=>by
   have h:some l=some r:=h;cases h;exact⟨Cut.zero l,λ_ _ _ _ _=>trivial,λ_ _ _ _=>trivial⟩
 | .ar n e,hp,l,r,h=>by
   obtain⟨g1,g2⟩:=DG (λl r h=>⟨(rR e hp l r h).1,(rR e hp l r h).2.1⟩) n l r h;have key:∀F w c o,(∀j,j<(Ty.ar n e).cells->c (o+j)=cl l j)->bI F w (.ar n e) (Ty.zero (.ar n e)) c o:=λF w c o hc=>⟨adz,g2 F w c o hc⟩
   exact⟨g1,key,λB c o hc=>key B.F B.w c o hc⟩
 | .gv,_,[],_,h| .gv,_,[_],_,h| .gv,_,[_,_],_,h| .gv,_,[_,_,_],_,h| .gv,_,[_,_,_,_],_,h=>by cases h
 | .gv,_,v1::v2::v3::v4::v5::l',r,h=>by
   obtain⟨hb,h⟩:=aQ (show(bif kZ 4 v1&&(kZ 3 v2&&(sF v3&&(wm v4&&Jn v5))) then some l' else none)=some r from h);cases h;simp only[adr] at hb;obtain⟨b1,b2,b3,b4,b5⟩:=hb;have b1:=mq b1;have b2:=mq b2;obtain⟨s,b3,b3'⟩:=wo b3;have b4:=sE b4;have b5:=Cw b5;subst b1;subst b2;subst b3;subst b4;subst b5;have key:∀(c:Nat->Value) (o:Nat),(∀j,j<5->c (o+j)=cl (.int (kd 4) 0:: .int (kd 3) 0:: .string s:: .slice none 0 0:: .bool false::l') j)->
    (c o= .int (kd 4) 0)/\(c (o+1)= .int (kd 3) 0)/\(c (o+2)= .string s)/\c (o+3)= .slice none 0 0/\c (o+4)= .bool false:=λc o hc=>⟨hc 0 (by decide),hc 1 (by decide),hc 2 (by decide),hc 3 (by decide),hc 4 (by decide)⟩
   refine⟨(Cut.one _ _).trans ((Cut.one _ _).trans ((Cut.one _ _).trans ((Cut.one _ _).trans (Cut.one _ _)))),λF w c o hc=> ?_,λB c o hc=> ?_⟩
   ·obtain⟨h1,h2,h3,h4,h5⟩:=key c o hc;exact⟨⟨h1,by decide⟩,⟨h2,x8 (by decide)⟩,⟨s,h3,b3',by decide⟩,BP (by decide) (h4▸a9q.zs),h5⟩
   ·obtain⟨h1,h2,h3,h4,h5⟩:=key c o hc;exact⟨⟨h1,by decide,by decide,by decide⟩,⟨h2,by decide,x8 (by decide)⟩,⟨s,h3,b3',by decide⟩,h4,h5,trivial⟩
 | .i k,_,l,r,h=>by
   cases l with
   |nil=>cases h
   |cons v l=>
    obtain⟨hb,h⟩:=aQ (show(bif kZ k v&&Nat.ble k 3 then some l else none)=some r from h);cases h;rw[adr] at hb;have b1:=mq hb.1;have h3:=adv hb.2;subst b1;have key:∀(c:Nat->Value) o,(∀i,i<1->c (o+i)=cl (Value.int (kd k) 0::r) i)->c o= .int (kd k) 0/\k<4/\ix k 0:=λc o hc=>⟨hc 0 aek,ade,x8 h3⟩
    exact⟨Cut.one _ _,λF w c o hc=>key c o hc,λB c o hc=>key c o hc⟩
 | .u k,_,l,r,h=>by
   cases l with
   |nil=>cases h
   |cons v l=>
    obtain⟨hb,h⟩:=aQ (show(bif kZ k v&&(Nat.ble 4 k&&Nat.ble k 7) then some l else none)=some r from h);cases h;simp only[adr] at hb;have b1:=mq hb.1;have h3:=adv hb.2.1;have h4:=adv hb.2.2;subst b1;have key:∀(c:Nat->Value) o,(∀i,i<1->c (o+i)=cl (Value.int (kd k) 0::r) i)->c o= .int (kd k) ((0:Nat):Int)/\4<=k/\k<8/\0<fo k:=λc o hc=>⟨hc 0 aek,h3,ade,pO⟩
    exact⟨Cut.one _ _,λF w c o hc=>key c o hc,λB c o hc=>key c o hc⟩
 | .b,_,l,r,h=>by
   cases l with
   |nil=>cases h
   |cons v l=>
    obtain⟨hb,h⟩:=aQ (show(bif Jn v then some l else none)=some r from h);cases h;have b1:=Cw hb;subst b1;exact⟨Cut.one _ _,λF w c o hc=>hc 0 aek,λB c o hc=>hc 0 aek⟩
 | .s,_,l,r,h=>by
   cases l with
   |nil=>cases h
   |cons v l=>
    obtain⟨hb,h⟩:=aQ (show(bif sF v then some l else none)=some r from h);cases h;obtain⟨s,b1,b2⟩:=wo hb;subst b1;exact⟨Cut.one _ _,λF w c o hc=>⟨s,hc 0 aek,b2,by decide⟩,λB c o hc=>⟨s,hc 0 aek,b2,by decide⟩⟩
 | .sl e,hp,l,r,h=>by
   have hp:(Nat.ble 1 e.cells&&e.pos)=true:=hp;rw[adr] at hp;cases l with
   |nil=>cases h
   |cons v l=>
    obtain⟨hb,h⟩:=aQ (show(bif wm v then some l else none)=some r from h);cases h;have b1:=sE hb;subst b1;have key:∀(c:Nat->Value) o,(∀i,i<1->c (o+i)=cl (Value.slice none 0 0::r) i)->c o= .slice none 0 0:=λc o hc=>hc 0 aek
    exact⟨Cut.one _ _,λF w c o hc=>BP (adv hp.1) (Zn.zs ⟨_,key c o hc⟩),λB c o hc=>key c o hc⟩
where zcells:∀(t:Ty),(iF t).cells=t.cells
 | .pr a c=>by show(iF a).cells+(iF c).cells=a.cells+c.cells;rw[zcells a,zcells c]
 | .un| .sl _| .gv| .i _| .u _| .b| .s| .ar _ _=>rfl
theorem qy:∀(t:Ty),fit t (iF t)=true
 | .pr a c=>by show(fit a (iF a)&&fit c (iF c))=true;rw[qy a,qy c];rfl
 | .un=>rfl
 | .sl _=>rfl
 | .gv=>by decide
 | .i _=>dk _ _
 | .u _=>dk _ _
 | .b=>dk _ _
 | .s=>dk _ _
 | .ar _ _=>dk _ _
theorem As {t:Ty} {x:TV} (h:fit t x=true):k_ x=true:=by
 cases x<;>first|rfl|(cases t<;>cases h)
theorem RY {t:Ty} (h:t.ag=false):t.cells=1:=by cases t<;>first|rfl|cases h
structure FO (P:Program) (ty:TypeId) (t:Ty) (i:TypeInfo) (v:Value):Prop where
 info:gy P ty=some i
 z:i.zero=some v
 ok:xI t.ag t.cells v
 rep:∀F w,bI F w t t.zero (cv v) 0
 rp:∀B,Rp B (iF t) (cv v) 0
theorem gd {P:Program} {ty:TypeId} {t:Ty} (hp:t.pos=true) (h:zeroOf t (zeroV P ty)=true):∃i v,FO P ty t i v:=by
 unfold zeroV at h;cases hi:gy P ty with
 |none=>rw[hi] at h;cases h
 |some i=>
  rw[hi] at h;have h:zeroOf t i.zero=true:=h;unfold zeroOf at h;split at h;rotate_left
  ·cases h
  rename_i v hv;refine⟨i,v,?_⟩;split at h;rotate_left
  ·cases h
  rename_i hz;obtain⟨g1,g2,g3⟩:=rR t hp _ _ hz;have hl:v.cells.size=t.cells:=by have:=g1.len;rwa [Array.length_toList,adR,ae9] at this
  have key:xI t.ag t.cells v/\∀j,j<t.cells->cv v (0+j)=cl v.cells.toList j:=by
   have r0:=g2 (λ_=>True) default (cl v.cells.toList) 0 λj _=>by rw[adI]
   have r1:=fh t _ _ _ r0
   by_cases sB:∃cs,v= .agg cs
   ·obtain⟨cs,rfl⟩:=sB;have h:t.ag=true:=h;rw[h];refine⟨⟨cs,rfl,hl,λu hu=> ?_⟩,λj _=>by rw[adI,gT];rfl⟩;obtain⟨j,hj,rfl⟩:=Array.mem_iff_getElem.1 hu;have:=r1 j (by rw[<-hl];exact hj);rw[adI,gT] at this;have e:=j4 hj;rw[adX hj] at e;rw[Option.some.inj e];exact this
   ·have ht:t.ag=false:=by
     have h:(!t.ag)=true:=by cases v<;>first|exact h|exact absurd ⟨_,rfl⟩ sB
     cases hh:t.ag with
     |true=>rw[hh] at h;cases h
     |false=>rfl
    have e:v.cells= #[v]:=by cases v<;>first|rfl|exact absurd ⟨_,rfl⟩ sB
    have h1:=RY ht;rw[e] at r1;have r2:=r1 0 ade;have r2:v.oneCell'=true:=r2;rw[ht];refine⟨⟨r2,h1⟩,λj hj=> ?_⟩;obtain rfl:j=0:=ade;rw[e,pv r2];rfl
  exact⟨hi,hv,key.1,λF w=>g2 F w _ 0 key.2,λB=>g3 B _ 0 key.2⟩
theorem FO.size {P:Program} {ty:TypeId} {t:Ty} {i:TypeInfo} {v:Value} (Z:FO P ty t i v):v.cells.size=t.cells:=(iZ Z.ok).1
theorem S6 {k:IntKind} {n:Int} (h:Ul (.int k n)=true) {B:Bs}:Rv B (mh (.int k n)) (.int k n):=by
 have hk:=Hf k;have e2:kd (kc k)=k:=CC k;have h:(bif Nat.ble (kc k) 3 then(decide (-(fo (kc k):Int)<=2*n)&&decide (2*n<fo (kc k))) else(decide (0<=n)&&decide (n<fo (kc k))))=true:=h;show Rv B (bif Nat.ble (kc k) 3 then .v (.i (kc k)) n else .v (.u (kc k)) n.toNat) (.int k n);cases hb:Nat.ble (kc k) 3 with
 |true=>
  rw[hb] at h;have h3:=adv hb;have h:(decide (-(fo (kc k):Int)<=2*n)&&decide (2*n<fo (kc k)))=true:=h;rw[adr,decide_eq_true_iff,decide_eq_true_iff] at h;have:=TG (B:=B) (k:=kc k) (x:=n) ade h;rw[e2] at this;exact this
 |false=>
  rw[hb] at h;have h3:¬kc k<=3:=λe=>by rw[Nat.ble_eq_true_of_le e] at hb;cases hb
  have h:(decide (0<=n)&&decide (n<fo (kc k)))=true:=h;rw[adr,decide_eq_true_iff,decide_eq_true_iff] at h;have:=PT (B:=B) (k:=kc k) (x:=n.toNat) ade hk ade;rw[e2,Int.toNat_of_nonneg h.1] at this;exact this
theorem yw {v:Value} (h:Ul v=true) (B:Bs):Rv B (mh v) v/\k_ (mh v)=true/\(mh v).ag=false/\(mh v).cells=1:=by
 cases v with
 |int k n=>
  refine⟨S6 h,?_⟩;show k_ (bif Nat.ble (kc k) 3 then .v (.i (kc k)) n else .v (.u (kc k)) n.toNat)=true/\TV.ag (bif Nat.ble (kc k) 3 then .v (.i (kc k)) n else .v (.u (kc k)) n.toNat)=false/\TV.cells (bif Nat.ble (kc k) 3 then .v (.i (kc k)) n else .v (.u (kc k)) n.toNat)=1;cases Nat.ble (kc k) 3<;>exact⟨rfl,rfl,rfl⟩
 |bool b=>exact⟨y6 b,rfl,rfl,rfl⟩
 |string s=>
  have h:Nat.ble s.size 1073741824=true:=h;have:=adv h;exact⟨mkS s (by unfold dU;omega),rfl,rfl,rfl⟩
 |slice a n c=>
  unfold Ul at h;split at h
  ·rename_i heq;cases heq
  ·rename_i heq;cases heq
  ·rename_i heq;cases heq
  ·rename_i heq;cases heq;exact⟨dG rfl rfl rfl rfl (rfl:(Value.slice none 0 0)= .slice none 0 0),rfl,rfl,rfl⟩
  ·cases h
 |_=>cases h
theorem zA {B:Bs}:∀(l:List Value),xL l=true->(my l).cells=l.length/\(my l).ag=true/\(∀u∈l,u.oneCell'=true)/\∀(c:Nat->Value) o,(∀i,i<l.length->c (o+i)=cl l i)->Rp B (my l) c o
 |[],_=>⟨rfl,rfl,λu hu=>(by cases hu),λ_ _ _=>trivial⟩
 |v::r,h=>by
  have h:(Ul v&&xL r)=true:=h;rw[adr] at h;obtain⟨a1,a2,a3,a4⟩:=yw h.1 B;obtain⟨b1,b2,b3,b4⟩:=zA (B:=B) r h.2;obtain⟨c1,c2⟩:=d7 a2 a3 a1;refine⟨by show(mh v).cells+(my r).cells=_;rw[a4,b1,adB];omega,rfl,λu hu=> ?_,λc o hc=>⟨?_,?_⟩⟩
  ·rcases adK.1 hu with rfl|hu
   ·exact c1
   ·exact b3 u hu
  ·refine Rp.dP _ (λj hj=> ?_) c2;rw[a4] at hj;obtain rfl:j=0:=ade;exact hc 0 (by rw[adB];omega)
  ·rw[a4];refine b4 c _ λi hi=> ?_
   rw[adV,Nat.add_comm 1 i];exact hc (i+1) (by rw[adB];omega)
theorem BX (B:Bs) (v:Value):Rv B (D_ v) v:=by
 by_cases sB:∃cs,v= .agg cs
 ·obtain⟨cs,rfl⟩:=sB;show Rv B (bif xL cs.toList then my cs.toList else .bU) (.agg cs);cases h:xL cs.toList with
  |false=>trivial
  |true=>
   obtain⟨h1,h2,h3,h4⟩:=zA (B:=B) cs.toList h;have hv:k_ (my cs.toList)=true:=by cases cs.toList<;>rfl
   show Rv B (my cs.toList) (.agg cs);rw[gI hv,h1,h2];refine⟨⟨cs,rfl,by rw[Array.length_toList],λu hu=>h3 u (Array.mem_toList_iff.2 hu)⟩,h4 _ 0 λi _=> ?_⟩;rw[adI,gT];rfl
 ·have e:D_ v=(bif Ul v then mh v else .bU):=by cases v<;>first|rfl|exact absurd ⟨_,rfl⟩ sB
  rw[e];cases h:Ul v with
  |false=>trivial
  |true=>exact(yw h B).1
theorem yE (off:Nat):∀(vs:List Value) (j0:Nat) (cs:Array Value),((vs.zipIdx j0).foldl (λ(cs:Array Value) (p:Value×Nat)=>cs.setIfInBounds (off+p.2) p.1) cs).size=cs.size/\
 ∀j,((vs.zipIdx j0).foldl (λ(cs:Array Value) (p:Value×Nat)=>cs.setIfInBounds (off+p.2) p.1) cs)[j]? =if off+j0<=j/\j<off+j0+vs.length/\j<cs.size then vs[j-(off+j0)]? else cs[j]?
 |[],j0,cs=>⟨rfl,λj=>by rw[adq (by simp only[adR];omega)];rfl⟩
 |v::r,j0,cs=>by
  obtain⟨h1,h2⟩:=yE off r (j0+1) (cs.setIfInBounds (off+j0) v);rw[List.zipIdx_cons,List.foldl_cons];refine⟨by rw[h1,Array.size_setIfInBounds],λj=> ?_⟩;rw[h2 j,Array.size_setIfInBounds,Array.getElem?_setIfInBounds]
  by_cases e:j=off+j0
  ·subst e;rw[adi]
   by_cases hj:off+j0<cs.size
   ·rw[adp rfl,adp hj,adp ⟨adw _,by simp only[adB];omega,hj⟩,aep];rfl
   ·rw[adp rfl,adq hj,adi,Array.getElem?_eq_none ade]
  ·by_cases e1:off+(j0+1)<=j/\j<off+(j0+1)+r.length/\j<cs.size
   ·rw[adp e1,adp (by simp only[adB];omega),show j-(off+j0)=(j-(off+(j0+1)))+1 by omega];rfl
   ·rw[adq e1,adq (Ne.symm e),adq (by simp only[adB];omega)]
theorem yD {place:Nat->Option (Nat×Nat)} {i off sz:Nat} {ag:Bool} {v:Value} {cs:Array Value} {rest:List (Nat×Value)} (hp:place i=some (off,sz)) (hv:xI ag sz v) (hle:off+sz<=cs.size):
 ∃cs1,cs1.size=cs.size/\(∀j,fw cs1 j=if off<=j/\j<off+sz then cv v (j-off) else fw cs j)/\(qi cs->qi cs1)/\Instr.fill place cs ((i,v)::rest)=Instr.fill place cs1 rest:=by
 obtain⟨h1,h2,h3⟩:=iZ hv;obtain⟨q1,q2⟩:=yE off v.cells.toList 0 cs;have e:v.cells.zipIdx.foldl (λ(cs:Array Value) (p:Value×Nat)=>cs.setIfInBounds (off+p.2) p.1) cs=(v.cells.toList.zipIdx 0).foldl (λ(cs:Array Value) (p:Value×Nat)=>cs.setIfInBounds (off+p.2) p.1) cs:=by
  rw[<-Array.foldl_toList,Array.toList_zipIdx]
 have hl:v.cells.toList.length=sz:=by rw[Array.length_toList,h1]
 refine⟨(v.cells.toList.zipIdx 0).foldl (λ(cs:Array Value) (p:Value×Nat)=>cs.setIfInBounds (off+p.2) p.1) cs,q1,λj=> ?_,λho u hu=> ?_,?_⟩
 ·unfold fw;rw[adD,q2 j,hl,ae9,adD]
  by_cases c:off<=j/\j<off+sz
  ·rw[adp ⟨c.1,c.2,ade⟩,adp c,<-h3 _ ade];unfold cl;rw[adG]
  ·rw[adq (λq=>c ⟨q.1,q.2.1⟩),adq c]
 ·obtain⟨j,hj,rfl⟩:=Array.mem_iff_getElem.1 hu;have e:=q2 j;rw[adX hj] at e;split at e
  ·exact h2 _ (Array.mem_toList_iff.1 (List.mem_of_getElem? e.symm))
  ·exact ho _ (Array.mem_of_getElem? e.symm)
 ·rw[Instr.fill,hp];simp only[];rw[adq,<-e];rw[h1];simp only[aec,adk,ne_eq,not_true,false_or];omega
end
noncomputable section
section
variable {T:CT} {s s':TS} {tv:TV}
theorem Ir {t:TypeId} {n:Nat} (h:BU T t n=true):cg T.P t=n/\1<=n:=by
 unfold BU at h;simp only[adr] at h;exact⟨adu h.1,adv h.2.1⟩
theorem Ft {P:Program} (t:TypeId) (u:Value) (w:World):(Instr.box t u).run P w= .ok (.pointer (some ⟨w.heap.size,0,none⟩)) (w.alloc (.cells u.cells t)):=by
 simp[Instr.box,newVar,newRow]
theorem JN {P:Program} {t:TypeId} {i:TypeInfo} {v:Value} (h:P.info? t=some i) (hz:i.zero=some v) (w:World):(Instr.alloc t true (.tuple #[])).run P w=(Instr.box t v).run P w:=by
 simp[Instr.alloc,Instr.box,zeroValue,typeInfo,h,hz]
theorem HG {α:Type} {a:Array α} {x:α} {b:Nat} (h:b<a.size):(a.push x)[b]? =a[b]? :=by rw[Array.getElem?_push,adi]
theorem HF {α:Type} {a:Array α} {x:α}:(a.push x)[a.size]? =some x:=by rw[Array.getElem?_push,adp rfl]
theorem z8 {P:Program} {B:Bs} {t:TypeId} {run:Sem Value} {v:Value} {ag:Bool} {n:Nat} {C:Bs->Prop} {tb:TB} (hr:run.run P B.w=(Instr.box t v).run P B.w) (hv:xI ag n v) (RC:∀tb',tb.hZ tb'->tb'.off []=some 0)
 (hB:∀B' st p,C B'->bo B B'->qh B'.w p st (λcs=>n<=cs.size/\qi cs/\∀i,i<n->fw cs i=cv v i)->lg B' ⟨st,tb⟩ p):lp P B run C tb λj=> .p j []:=by
 obtain⟨c1,c2,c3⟩:=iZ hv;refine⟨_,some (B.w.heap.size,v.cells.size),_,hr.trans (Ft t v B.w),λb hb=>HG hb,?_,⟨rfl,rfl⟩,λb s e=>(by cases e;exact adw _),λB' st e hC L=> ?_,λB' j h7 hk hp=>mkP h7 hp (RC _ hk)⟩
 ·show B.w.heap.size<=(B.w.heap.push _).size;rw[Array.size_push];omega
 ·refine hB B' st _ hC L ⟨B.w.heap.size,v.cells,t,(0,0),rfl,?_,λ_=> .inl rfl,ade,c2,λi hi=> ?_⟩
  ·rw[e];exact HF
  ·rw[<-c3 i hi,gT]
theorem XC {e:Ty}:∀(l:List (Option Ty)),DO l≠some (.sl e)
 |[],h=>by cases h
 |a::r,h=>by
  unfold DO at h;split at h<;>cases h
theorem XB:∀(l:List (Option Ty)),DO l≠some cO
 |[],h=>by cases h
 |a::r,h=>by
  unfold DO at h;split at h
  ·rename_i x y h1 h2;injection h with h
   injection h with h3 h4
   rw[h4] at h2;exact XC r h2
  ·cases h
theorem HY {P:Program} {gv:Nat} {t:TypeId} {ty:Ty} (h:nN P gv t=some ty):ty≠cO:=λe=>by
 subst e;unfold nN at h;unfold tyF at h;cases hb:Nat.beq t gv with
 |true=>rw[hb] at h;cases h
 |false=>
  rw[hb] at h;have h:=h;rw[cond_false] at h;split at h
  ·cases h
  ·cases h
  ·rename_i q _;cases hc:Nat.ble (kc q) 3<;>rw[hc] at h<;>cases h
  ·split at h<;>cases h
  ·split at h<;>cases h
  ·exact XB _ h
  ·cases h
def tm (es:List Ty) (k:Nat) (B:Bs):Prop:=∀i e,es[i]? =some e->OwnAt B (k+i) e
theorem zI {t:TypeId} {a:Option TV} (h:mB T s t a dA=some (tv,s')):∃es tb,s'=TS.new ⟨s.fr,s.hp++ed es⟩ tb/\tv= .p (s.hp.length+es.length) []/\(∀e∈es,1<=e.cells)/\
 ∀(B:Bs),(a=none->lp T.P B (Instr.alloc t true (.tuple #[])) (tm es s.hp.length) tb λj=> .p j [])/\∀x v,a=some x->Rv B x v->lp T.P B (Instr.box t v) (tm es s.hp.length) tb λj=> .p j []:=by
 have hlen:∀es:List Ty,(s.hp++ed es).length=s.hp.length+es.length:=λes=>by rw[ado,ed,ae0]
 have box:∀{ty:Ty} {x:TV},ty≠cO->ty.pos=true->1<=ty.cells->fit ty x=true->(match own ty x s.hp with|(x,h)=>dA (.p h.length []) (TS.new ⟨s.fr,h⟩ (.box ty x)))=some (tv,s')->∃es tb,s'=TS.new ⟨s.fr,s.hp++ed es⟩ tb/\tv= .p (s.hp.length+es.length) []/\(∀e∈es,1<=e.cells)/\
  ∀(B:Bs) (run:Sem Value) v,xI ty.ag ty.cells v->Rp B x (cv v) 0->run.run T.P B.w=(Instr.box t v).run T.P B.w->lp T.P B run (tm es s.hp.length) tb λj=> .p j []:=by
  intro ty x Je hp h1 hf h;cases ho:own ty x s.hp with
  |mk x' H1=>
   rw[ho] at h;have h:some (TV.p H1.length [],TS.new ⟨s.fr,H1⟩ (.box ty x'))=some (tv,s'):=h;obtain⟨es,p1,p2,p3,_,p4⟩:=HC ty x hp hf ho;cases h;subst p1;refine⟨es, .box ty x',rfl,by rw[hlen],p2,λB run v hv hx hr=> ?_⟩;refine z8 hr hv (λtb' hk=> ?_) λB' st p hC L hl=> ?_
   ·cases tb' with
    |box t' c=>have hk:ty=t':=hk;subst hk;exact adq Je
    |_=>exact hk.elim
   ·intro _;refine⟨p3, .inl ⟨Je,hl.mono (λ_ _ _=>rfl) λcs ⟨l1,l2,l3⟩=>⟨l1,l2,p4 B' _ 0 hC ?_⟩⟩⟩;refine Rp.dP x (λj hj=> ?_) (Rp.mono L x _ _ hx);rw[(cV ty x hf).1] at hj;rw[adI];exact l3 j hj
 unfold mB at h;split at h
 ·rename_i ty ht
  replace h:=aQ h;obtain⟨hc,h⟩:=h
  rw[adr] at hc;obtain⟨b1,b2⟩:=Ir hc.1;cases a with
  |none=>
   obtain⟨hz,h2⟩:=aQ (show(bif zeroOf ty (zeroV T.P t) then(match own ty (iF ty) s.hp with|(x,h)=>dA (.p h.length []) (TS.new ⟨s.fr,h⟩ (.box ty x))) else none)=some (tv,s') from h);obtain⟨i,v,Z⟩:=gd hc.2 hz;obtain⟨es,tb,q1,q2,q3,q4⟩:=box (HY ht) hc.2 b2 (qy ty) h2;exact⟨es,tb,q1,q2,q3,λB=>⟨λ_=>q4 B _ v Z.ok (Z.rp B) (JN (dm Z.info) Z.z B.w),λx v e=>(by cases e)⟩⟩
  |some a=>
   obtain⟨hf,h2⟩:=aQ (show(bif fit ty a then(match own ty a s.hp with|(x,h)=>dA (.p h.length []) (TS.new ⟨s.fr,h⟩ (.box ty x))) else none)=some (tv,s') from h);obtain⟨es,tb,q1,q2,q3,q4⟩:=box (HY ht) hc.2 b2 hf h2;refine⟨es,tb,q1,q2,q3,λB=>⟨λe=>(by cases e),λx v e hx=> ?_⟩⟩;cases e;rw[gI (As hf)] at hx;obtain⟨c1,c2⟩:=cV ty a hf;rw[c1,c2] at hx;exact q4 B _ v hx.1 hx.2 rfl
 ·cases a with
  |none=>cases h
  |some a=>
   obtain⟨hc,h2⟩:=aQ (show(bif BU T t 1&&(Nat.beq a.cells 1&& !a.ag&&k_ a) then dA (.p s.hp.length []) (s.new (.any a)) else none)=some (tv,s') from h);cases h2;simp only[adr,adn] at hc;obtain⟨_,⟨c1,c2⟩,c3⟩:=hc;have c1:=adu c1;refine⟨[], .any a,by rw[show ed []=[] from rfl,adP],rfl,λ_ h=>(by cases h),λB=>⟨λe=>(by cases e),λx v e hx=> ?_⟩⟩;cases e;rw[gI c3,c1,c2] at hx;refine z8 rfl hx.1 (λtb' hk=> ?_) λB' st p hC L hl=> ?_
   ·cases tb' with
    |any c=>rfl
    |_=>exact hk.elim
   ·intro _;refine⟨c1,hl.mono (λ_ _ _=>rfl) λcs ⟨l1,l2,l3⟩=>⟨l1,l2,?_⟩⟩;refine Rp.dP a (λj hj=> ?_) (Rp.mono L a _ _ hx.2);rw[adI];exact l3 j ade
def m9 (H:List TE) (B:Bs) (l:List Nat):Prop:=∀j∈l,(B.e j).st=0/\(B.e j).b=(nth .bu H j).b
theorem m9.same {H:List TE} {B:Bs} {l:List Nat} (h:m9 H B l):i9 H B l:=λj hj=>⟨by have:=(h j hj).1;omega,(h j hj).2⟩
theorem vB {X:Fx} {B:Bs} (I:bw X B) {e:Ty} (hp:e.pos=true) {m:Nat} {ρ:Operand->Value} {place:Nat->Option (Nat×Nat)}:∀(ps:List (Nat×Operand)) (l l':(Ty.sl e).T) (cs:Array Value),
 (∀p∈ps,Rv B (dn s p.2) (ρ p.2))->m9 s.hp B (jr s ps)->elems s e m ps l=some l'->List.length l=m->m*e.cells<=cs.size->(∀p∈ps,place p.1=some (p.1*e.cells,e.cells))->bQ (bI B.F B.w e) e.cells l (fw cs) 0->
 ∃cs',Instr.fill place cs (ps.map λp=>(p.1,ρ p.2))=some cs'/\cs'.size=cs.size/\(qi cs->qi cs')/\List.length l'=m/\bQ (bI B.F B.w e) e.cells l' (fw cs') 0
 |[],l,l',cs,_,_,h,hl,_,_,hr=>by
  have h:some l=some l':=h;cases h;exact⟨cs,rfl,rfl,id,hl,hr⟩
 |(i,x)::r,l,l',cs,hρ,fz,h,hl,hm,x_,hr=>by
  have h:(match tU s.hp (dn s x) e with
   |some y=>(bif Nat.ble (Nat.succ i) m then elems s e m r (ae (e:=e) l (jH i) y) else none)
   |none=>none)=some l':=h
  cases hv:tU s.hp (dn s x) e with
  |none=>rw[hv] at h;cases h
  |some y=>
   rw[hv] at h;obtain⟨hb,h⟩:=aQ (show(bif Nat.ble (Nat.succ i) m then elems s e m r (ae (e:=e) l (jH i) y) else none)=some l' from h);have hi:i<m:=adv hb;have fz1:m9 s.hp B (ids (dn s x)):=λj hj=>fz j (adM _ hj)
   obtain⟨a1,a2⟩:=((du e _ hv).same fz1.same).whole I (G:=B.F) (λb hb=>hb) hp (λj hj c z hc=>gV I (fz1 j hj).1 hc) (hρ (i,x) adt);have k5:=ot (z:=e.cells) hi;obtain⟨cs1,g1,g2,g3,g4⟩:=yD (rest:=r.map λp=>(p.1,ρ p.2)) (cs:=cs) (x_ (i,x) adt) a1 (show i*e.cells+e.cells<=cs.size by omega)
   replace g2:∀j,fw cs1 j=if i*e.cells<=j/\j<i*e.cells+e.cells then cv (ρ x) (j-i*e.cells) else fw cs j:=g2
   have RI:bQ (bI B.F B.w e) e.cells (ae (e:=e) l i y) (fw cs1) 0:=by
    refine x6 hr (λq hq hq'=> ?_) ?_
    ·rw[adI,g2,adi]
    ·refine bI.dP e y (λq hq=> ?_) a2;rw[adI,adI,g2,adh,ae1]
   obtain⟨cs',k1,k2,k3,k4,k5⟩:=vB I hp r (ae (e:=e) l i y) l' cs1 (λp hp=>hρ p (ady _ hp)) (λj hj=>fz j (adH _ hj)) h (by show List.length (List.set l i y)=m;rw[List.length_set];exact hl) (by rw[g1];exact hm) (λp hp=>x_ p (ady _ hp)) RI;exact⟨cs',by rw[List.map_cons,g4];exact k1,k2.trans g1,λh=>k3 (g3 h),k4,k5⟩
theorem rk {e:Ty} {m:Nat}:∀(ps:List (Nat×Operand)) (k:Nat) (l z:(Ty.sl e).T),xf s e ps k=some l->List.length z=m->k+ps.length=m->elems s e m ps z=some (List.take k z++l:List e.T)
 |[],k,l,z,h,h1,h2=>by
  have h:some (jg e)=some l:=h;cases h;show some z=some (List.take k z++[]);rw[adP,List.take_of_length_le (by simp at h2;omega)]
 |(i,x)::r,k,l,z,h,h1,h2=>by
  have h:(bif Nat.beq i k then(match tU s.hp (dn s x) e,xf s e r (Nat.succ k) with|some y,some l=>some (bM (e:=e) y l)|_,_=>none) else none)=some l:=h;cases hb:Nat.beq i k with
  |false=>rw[hb] at h;cases h
  |true=>
   rw[hb] at h;have e1:=adu hb;subst e1;have h:(match tU s.hp (dn s x) e,xf s e r (Nat.succ i) with|some y,some l=>some (bM (e:=e) y l)|_,_=>none)=some l:=h;split at h;rotate_left
   ·cases h
   rename_i y l1 hy hl;cases h;have h2:i+(r.length+1)=m:=h2;show(match tU s.hp (dn s x) e with
    |some y=>(bif Nat.ble (Nat.succ i) m then elems s e m r (ae (e:=e) z (jH i) y) else none)
    |none=>none)=_
   rw[hy];show(bif Nat.ble (Nat.succ i) m then elems s e m r (ae (e:=e) z (jH i) y) else none)=_;rw[Nat.ble_eq_true_of_le (show Nat.succ i<=m by omega)];show elems s e m r (ae (e:=e) z (jH i) y)=_;rw[rk r (i+1) l1 (ae (e:=e) z (jH i) y) hl (by show List.length (List.set z i y)=m;rw[List.length_set];exact h1) ade];congr 1;show List.take (i+1) (List.set z i y)++l1=List.take i z++y::l1;have hi:i<List.length z:=ade;rw[List.take_add_one,List.take_set_of_le (adw _),List.getElem?_set_self hi];simp
theorem D4 {B:Bs} {fs:Array Field} {ty:Ty} {ρ:Operand->Value} {place:Nat->Option (Nat×Nat)}:∀(ps:List (Nat×Operand)) (z z':TV) (cs:Array Value),(∀p∈ps,Rv B (dn s p.2) (ρ p.2))->parts T s fs ty ps z=some z'->fit ty z=true->ty.cells<=cs.size->Rp B z (fw cs) 0->
 (∀p∈ps,place p.1=some (gu fs p.1,cg T.P (gj fs p.1)))->∃cs',Instr.fill place cs (ps.map λp=>(p.1,ρ p.2))=some cs'/\cs'.size=cs.size/\(qi cs->qi cs')/\fit ty z'=true/\Rp B z' (fw cs') 0
 |[],z,z',cs,_,h,hf,hl,hr,_=>by
  have h:some z=some z':=h;cases h;exact⟨cs,rfl,rfl,id,hf,hr⟩
 |(i,x)::r,z,z',cs,hρ,h,hf,hl,hr,x_=>by
  have h:(match ty.o_ i,iy (λ_=>some (dn s x)) i z with
   |some (u,o),some z=>(bif fit u (dn s x)&&(Nat.beq o (gu fs i)&&(Nat.beq u.cells (cg T.P (gj fs i))&&Nat.ble 1 u.cells)) then parts T s fs ty r z else none)
   |_,_=>none)=some z':=h
  split at h;rotate_left
  ·cases h
  rename_i u o z1 h1 h2;obtain⟨hb,h⟩:=aQ h;simp only[adr] at hb;obtain⟨b1,b2,b3,b4⟩:=hb;have b2:=adu b2;have b3:=adu b3;have a1:=hρ (i,x) adt;rw[gI (As b1)] at a1;obtain⟨w1,w2⟩:=a1;obtain⟨c1,c2⟩:=cV u _ b1;rw[c1,c2] at w1;obtain⟨_,f2,_⟩:=vS (B:=B) hf h1;have K6:=x_ (i,x) adt;rw[<-b2,<-b3] at K6;obtain⟨cs1,g1,g2,g3,g4⟩:=yD (rest:=r.map λp=>(p.1,ρ p.2)) (cs:=cs) K6 w1 ade;obtain⟨c,k1,k2⟩:=zF hf h1 h2;cases k1;obtain⟨m1,_,m3⟩:=k2 b1;have RI:Rp B z1 (fw cs1) 0:=by
   refine m3 B (fw cs) _ 0 hr (λj hj hj'=> ?_) ?_
   ·rw[adI,g2,adi]
   ·refine Rp.dP _ (λj hj=> ?_) w2;rw[c1] at hj;rw[adI,adI,g2,adh,ae1]
  obtain⟨cs',q1,q2,q3,q4,q5⟩:=D4 r z1 z' cs1 (λp hp=>hρ p (ady _ hp)) h m1 (by rw[g1];exact hl) RI (λp hp=>x_ p (ady _ hp));exact⟨cs',by rw[List.map_cons,g4];exact q1,q2.trans g1,λh=>q3 (g3 h),q4,q5⟩
theorem zq {P:Program}:∀(fs:List Field),(∀x∈fs,known P x.type=true)->fs.mapM (λf=>(P.info? f.type).map λi=>(f.offset,i.size))=some (fs.map λf=>(f.offset,cg P f.type))
 |[],_=>rfl
 |f::fs,h=>by
  obtain⟨d,hd⟩:=ob (h f (adt ..));obtain⟨_,i,hi,j6⟩:=bp hd;rw[List.mapM_cons,zq fs λx hx=>h x (ady _ hx),hi];simp[g9 j6]
theorem vL {p q:Nat->Option (Nat×Nat)}:∀(l:List (Nat×Value)) (cs:Array Value),(∀x∈l,p x.1=q x.1)->Instr.fill p cs l=Instr.fill q cs l
 |[],_,_=>rfl
 |(i,v)::l,cs,h=>by
  have h0:=h (i,v) (adt ..);have ih:∀cs,Instr.fill p cs l=Instr.fill q cs l:=λcs=>vL l cs λx hx=>h x (ady _ hx)
  simp only at h0;simp only[Instr.fill,h0,ih]
theorem zX {P:Program} {t:TypeId} {fs:Array Field} (ht:bU P t=some (.struct fs)) (hk:∀f∈fs.toList,known P f.type=true) {v:Value} {i:TypeInfo} {l:List (Nat×Value)} {cs:Array Value} (hi:gy P t=some i) (hv:i.zero=some v)
 (hl:∀p∈l,p.1<fs.size) (h:Instr.fill (λi=>some (gu fs i,cg P (gj fs i))) v.cells l=some cs):P.built t l=some cs:=by
 unfold Program.built;have hm:=zq fs.toList hk;simp only[dm hi,(bp ht).1,hv,hm];rw[<-h];refine vL _ _ λx hx=> ?_
 obtain⟨f,hf,h1,h2⟩:=sw (hl x hx);rw[h1,h2];simp[hf]
theorem BV {P:Program} {t e:TypeId} {n:Nat} (ht:bU P t=some (.array n e)) (hk:known P e=true) {v:Value} {i:TypeInfo} {l:List (Nat×Value)} {cs:Array Value} (hi:gy P t=some i) (hv:i.zero=some v)
 (h:Instr.fill (λi=>some (i*cg P e,cg P e)) v.cells l=some cs):P.built t l=some cs:=by
 obtain⟨d,hd⟩:=ob hk;obtain⟨_,ie,hie,a7X⟩:=bp hd;unfold Program.built;simp only[dm hi,(bp ht).1,hv,hie];rw[g9 a7X] at h;exact h
def pn (T:CT) (s:TS) (t:TypeId) (ps:List (Nat×Operand)):List Nat:=if ir T t=true then[] else jr s ps
theorem sL {ρ:Operand->Value} {ps:Array (Nat×Operand)}:(ps.map λ(i,x)=>(i,ρ x)).toList=ps.toList.map λp=>(p.1,ρ p.2):=by rw[Array.toList_map]
theorem JQ {t:TypeId} {ps:Array (Nat×Operand)} (h:pZ T s t ps.toList dA=some (tv,s')):∃H',freeze s.hp (pn T s t ps.toList)=some H'/\s'=⟨s.fr,H'⟩/\
 ∀(X:Fx) (B:Bs) (ρ:Operand->Value),bw X B->(∀p∈ps.toList,Rv B (dn s p.2) (ρ p.2))->m9 s.hp B (pn T s t ps.toList)->∃r,(∀w,(Instr.build t (ps.map λ(i,x)=>(i,ρ x))).run T.P w= .ok r w)/\Rv B tv r:=by
 unfold pZ at h;split at h
 ·rename_i n e m ε hu ht
  replace h:=aQ h;obtain⟨hc,h⟩:=h
  simp only[adr] at hc;obtain⟨⟨⟨ck,cf⟩,lh,Rt,Ng,Yl,hc6,hc7⟩,_⟩:=hc;have hn:=adu lh;have Ng:=adu Ng;have Yl:=adu Yl;have hbl:pn T s t ps.toList=jr s ps.toList:=by
   unfold pn ir;rw[hu];rfl
  split at h;rotate_left
  ·cases h
  ·cases h
  rename_i H1 x hf hx;cases h;rw[hbl];refine⟨H1,hf,rfl,λX B ρ I hρ fz=> ?_⟩;obtain⟨i,v,Z⟩:=gd (t:= .ar m ε) hc7 Rt;obtain⟨cs,rfl,z1,z2⟩:=Z.ok;have z1:cs.size=m*ε.cells:=z1;obtain⟨z3,z4⟩:=Z.rep B.F B.w;obtain⟨cs',k1,k2,k3,k4,k5⟩:=vB I hc7 (place:=λi=>some (i*cg T.P e,cg T.P e)) ps.toList (Ty.zero (.ar m ε)) x cs hρ fz hx z3 (by rw[z1];exact adw _) (λp _=>by rw[Ng]) z4;refine⟨.agg cs',λw=>run_build w t _ cs' ?_,?_⟩
  ·rw[sL];exact BV hu ck Z.info Z.z k1
  ·rw[gI rfl];exact⟨⟨cs',rfl,by rw[k2,z1];rfl,k3 z2⟩,k4,k5⟩
 ·rename_i fs ty hu ht
  replace h:=aQ h;obtain⟨hc,h⟩:=h
  simp only[adr] at hc;obtain⟨nZ,lh,Rt,Ng,Yl⟩:=hc;have Rt:=adu Rt;have hbl:pn T s t ps.toList=[]:=by
   unfold pn ir;rw[hu];rfl
  split at h;rotate_left
  ·cases h
  rename_i x hx
  replace h:=aQ h;obtain⟨hfx,h⟩:=h
  cases h;rw[hbl];refine⟨s.hp,rfl,rfl,λX B ρ I hρ _=> ?_⟩;obtain⟨i,v,Z⟩:=gd Yl lh;have zo:=Z.ok;rw[Ng] at zo;obtain⟨cs,rfl,z1,z2⟩:=zo;unfold Dq at nZ;simp only[adr] at nZ;obtain⟨s1,s2,s3⟩:=nZ;obtain⟨cs',k1,k2,k3,k4,k5⟩:=D4 (place:=λi=>some (gu fs i,cg T.P (gj fs i))) ps.toList _ _ cs hρ hx (qy ty) (by rw[z1];exact adw _) (Z.rp B) (λp _=>rfl);refine⟨.agg cs',λw=>run_build w t _ cs' ?_,?_⟩
  ·rw[sL];refine zX hu (λf hf=>adE.1 s1 f hf) Z.info Z.z (λp hp=> ?_) k1;obtain⟨q,hq,rfl⟩:=List.mem_map.1 hp;exact adv (adE.1 s2 q hq)
  ·obtain⟨c1,c2⟩:=cV ty _ k4;rw[gI (As k4),c1,c2,Ng];exact⟨⟨cs',rfl,by rw[k2,z1],k3 z2⟩,k5⟩
 ·cases h
theorem BC {P:Program} {ε:TypeId} {e:Ty} {i:TypeInfo} {v:Value} (Z:FO P ε e i v) (he:1<=e.cells) {n m:Nat} (hm:n*e.cells<=m) (F:Nat->Prop) (w:World):bQ (bI F w e) e.cells (List.replicate n e.zero) (fw ((Array.range m).map (v.cells[·%v.cells.size]!))) 0:=by
 obtain⟨c1,c2,c3⟩:=iZ Z.ok;refine bQ.of λq x hx=> ?_
 have hq:q<n:=by
  have:=(aee.1 hx).1
  rwa [adz] at this
 have ex:x=e.zero:=by
  rw[List.getElem?_replicate,adp hq] at hx;exact(Option.some.inj hx).symm
 rw[ex,adI];have k5:=ot (z:=e.cells) hq;refine bI.dP e _ (λj hj=> ?_) (Z.rep F w);have iJ:q*e.cells+j<m:=ade;have a81:(q*e.cells+j) %e.cells=j:=by rw[Nat.add_comm,Nat.add_mul_mod_self_right,Nat.mod_eq_of_lt hj]
 rw[adI,<-c3 j hj];unfold fw cl;rw[adD,adG,Array.getElem?_map,Array.getElem?_range,adp iJ,c1,adU];show(some (v.cells[(q*e.cells+j) %e.cells]!)).getD undef=_;rw[a81,getElem!_def,adX ade]
theorem jJ {P:Program} {t e:TypeId} (h:XN P t=some e):bU P t=some (.slice e):=by
 unfold XN at h;split at h
 ·rename_i hu;cases h;exact hu
 ·cases h
theorem xn {t:TypeId} {n:Nat} {ps:Array (Nat×Operand)} (h:fV T s t n ps.toList dA=some (tv,s')):∃H' tb,freeze s.hp (jr s ps.toList)=some H'/\s'=TS.new ⟨s.fr,H'⟩ tb/\tv= .r s.hp.length/\
 ∀(X:Fx) (B:Bs) (ρ:Operand->Value),bw X B->(∀p∈ps.toList,Rv B (dn s p.2) (ρ p.2))->m9 s.hp B (jr s ps.toList)->lp T.P B (Instr.buildSlice t n (ps.map λ(i,x)=>(i,ρ x))) (λ_=>True) tb .r:=by
 unfold fV at h;split at h;rotate_left
 ·cases h
 rename_i ε e Tt ht
 replace h:=aQ h;obtain⟨hc,h⟩:=h
 simp only[adr] at hc;obtain⟨⟨⟨nZ,lh,Rt⟩,Ng,Yl,hc6⟩,_⟩:=hc;have nZ:=adv nZ;have lh:=adv lh;have Ng:=adu Ng;rw[Ng] at nZ lh;have hn:n<=16777216:=aem (Nat.le_mul_of_pos_right n nZ) lh;split at h;rotate_left
 ·cases h
 ·cases h
 rename_i H1 x hf hx;have hx:elems s e n ps.toList (bd (e:=e) (jH n) e.zero)=some x:=by
  cases hb:Nat.beq ps.toList.length n with
  |false=>rw[hb] at hx;exact hx
  |true=>
   rw[hb] at hx;rcases oj hx with hx|hx
   ·have:=rk (s:=s) (m:=n) ps.toList 0 x (bd (e:=e) (jH n) e.zero) hx adz (by have:=adu hb;omega);rw[this];show some (List.take 0 _++x)=some x;rw[List.take_zero,List.nil_append]
   ·exact hx
 cases h;refine⟨H1,_,hf,rfl,by rw[(gK hf).1.len],λX B ρ I hρ fz=> ?_⟩;obtain⟨i,v,Z⟩:=gd hc6 Yl;obtain⟨cs,k1,k2,k3,k4,k5⟩:=vB I hc6 (place:=λi=>some (i*e.cells,e.cells)) ps.toList _ x ((Array.range (n*e.cells)).map (v.cells[·%v.cells.size]!)) hρ fz hx adz (by rw[Array.size_map,Array.size_range];exact adw _) (λp _=>rfl) (BC Z nZ (adw _) B.F B.w);have k2:cs.size=n*e.cells:=by rw[k2,Array.size_map,Array.size_range]
 have k4:List.length x=n:=k4;have hi:i.size=e.cells:=by rw[<-g9 Z.info,Ng]
 refine og (ty:=ε) (fz:=(0,0)) (w':=B.w.alloc (.cells cs ε)) (cap:=n) (cs:=cs) (by rw[k4];unfold dU;omega) nZ ade ade (.inl rfl) ?_ rfl ⟨rfl,rfl⟩ k5;rw[k4]
 by_cases h0:n*e.cells=0
 ·have a83:((Array.range (n*e.cells)).map (v.cells[·%v.cells.size]!))=((Array.range (n*e.cells)).map ((#[]:Array Value)[·%(#[]:Array Value).size]!)):=by rw[h0];simp
  rw[a83] at k1;simp[Instr.buildSlice,run_underlying (bp (jJ Tt)).1,sizeOf,typeInfo,dm Z.info,hi,h0,newRow];rw[h0] at k1;simp at k1;simp[k1]
 ·have:¬n*e.cells>2^24:=by omega
  simp only[Instr.buildSlice,Sem.run_bind,run_underlying (bp (jJ Tt)).1,Result.andThen_ok,sizeOf,typeInfo,sL,zeroValue];simp[dm Z.info,Z.z,hi,h0,this,k1,newRow]
theorem wrap_i64 {n:Nat} (h:n<=9223372036854775807):IntKind.i64.wrap (n:Int)=n:=by
 have:=Py (k:=3) (by decide) (n:Int);rw[Pw (by decide) (HJ h)] at this;exact this
theorem run_makeSlice {P:Program} {t e:TypeId} {i:TypeInfo} {zv:Value} (ht:bU P t=some (.slice e)) (hi:P.info? e=some i) (hz:i.zero=some zv) (hb:i.bytes<=65536) (h1:1<=i.size) {m:Nat} (hm:m<=1073741824) (k1:IntKind) (w:World):
 (Instr.makeSlice t (.int k1 (m:Int)) (.int k1 (m:Int))).run P w= .ok (.slice (some ⟨w.heap.size,0,none⟩) m m) (w.alloc (.cells ((Array.range (m*i.size)).map (zv.cells[·%zv.cells.size]!)) e)):=by
 have hw2:IntKind.i64.wrap (m:Int)=m:=wrap_i64 ade;have hmul:i.bytes*m<=65536*1073741824:=Nat.mul_le_mul hb hm;have c2:¬(281474976710656<(i.bytes:Int)*(m:Int)):=by
  have:((i.bytes*m:Nat):Int)=(i.bytes:Int)*(m:Int):=by push_cast;rfl
  omega
 have Cn:¬((m:Int)<0):=ade
 by_cases h0:m=0
 ·subst h0;have hw0:IntKind.i64.wrap 0=0:=by decide
  simp[Instr.makeSlice,run_underlying (bp ht).1,asInt,asIntOf,typeInfo,hi,sizeOf,askRoom,newRow,hw0];have e0:∀f:Nat->Value,Array.map f (Array.range 0)= #[]:=λf=>by apply Array.ext<;>simp
  rw[e0,e0]
 ·simp[Instr.makeSlice,run_underlying (bp ht).1,asInt,asIntOf,typeInfo,hi,hz,sizeOf,zeroValue,askRoom,newRow,hw2,c2,Cn];intro h;exact absurd h (Nat.ne_of_gt (Nat.mul_pos ade ade))
theorem Pl {t:TypeId} {same:Bool} {a b:TV} (h:xq T s t same a b dA=some (tv,s')):same=true/\∃tb,s'=s.new tb/\tv= .r s.hp.length/\∀(B:Bs) u,Rv B a u->lp T.P B (Instr.makeSlice t u u) (λ_=>True) tb .r:=by
 unfold xq at h;split at h;rotate_left
 ·cases h
 rename_i ε e Tt ht
 replace h:=aQ h;obtain⟨hc,h⟩:=h
 simp only[adr] at hc;obtain⟨⟨c1,c2⟩,c3,⟨c4,c5⟩,c6⟩:=hc;have c1:=adv c1;have c2:=adv c2;have c3:=adu c3;obtain⟨n,h1,h2⟩:=uA h;cases h2;refine⟨c6,_,rfl,rfl,λB u hu=> ?_⟩;obtain⟨h3,k,rfl⟩:=uB h1 hu;have h3:n<=1073741824:=h3;obtain⟨i,v,Z⟩:=gd c5 c4;have hi:i.size=e.cells:=by rw[<-g9 Z.info,c3]
 have hb:i.bytes<=65536:=by unfold bytesOf at c2;rw[Z.info] at c2;exact c2
 have he:1<=e.cells:=by rw[<-c3];exact c1
 have hlen:List.length (bd (e:=e) n e.zero)=n:=adz;have hr:=run_makeSlice (jJ Tt) (dm Z.info) Z.z hb ade h3 k B.w;rw[hi] at hr;refine og (ty:=ε) (fz:=(0,0)) (cap:=n) (cs:=(Array.range (n*e.cells)).map (v.cells[·%v.cells.size]!)) (w':=B.w.alloc (.cells ((Array.range (n*e.cells)).map (v.cells[·%v.cells.size]!)) ε)) (by rw[hlen];exact Nat.lt_of_le_of_lt h3 (by decide)) he (by rw[hlen];exact adw _) (by rw[Array.size_map,Array.size_range];exact adw _) (.inl rfl) (by rw[hlen];exact hr) rfl ⟨rfl,rfl⟩ (BC Z he (adw _) B.F B.w)
end
end
end Go.Proofs.YtbjcjppphoppfaaGreat.T
