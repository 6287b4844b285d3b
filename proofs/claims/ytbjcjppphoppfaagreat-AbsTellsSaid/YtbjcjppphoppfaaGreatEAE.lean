import Derived.Test.YtbjcjppphoppfaaGreatEAD
import Derived.Laws.BytesString
import Derived.Laws.IdiomStrings
import Derived.Laws.AppendOwn
import Derived.OwnWalkIn
set_option linter.all false
namespace Go.Proofs.YtbjcjppphoppfaaGreat.T
open Go
noncomputable section
section
variable {T:CT} {s:TS} {B:Bs}
theorem sw {fs:Array Field} {f:Nat} (h:f<fs.size):∃x,fs[f]? =some x/\gu fs f=x.offset/\gj fs f=x.type:=by
 have hg:fs[f]? =some fs[f]:=adX h;refine⟨fs[f],hg,?_,?_⟩
 ·unfold gu;rw[mm,adU,hg]
 ·unfold gj;rw[mm,adU,hg]
theorem Db {F:Nat->Prop} {w:World} {t u:Ty} {x:t.T} {x':u.T} {p b o:Nat} (hc:p+u.cells<=t.cells) (hr:∀c o,bI F w t x c o->bI F w u x' c (o+p)) (h:JH F w t x (.pointer (some ⟨b,o,none⟩))):
 JH F w u x' (.pointer (some ⟨b,o+p,none⟩)):=by
 obtain⟨b',o',cs,T',fz,e,h1,h2,h3,h4⟩:=h;cases e;exact⟨b,o+p,cs,T',fz,rfl,h1,h2,ade,hr _ _ h4⟩
theorem XJ {t:Ty} {x:t.T} {a:Value} (h:Rv B (.q t x) a):∃b o,a= .pointer (some ⟨b,o,none⟩)/\JH B.F B.w t x (.pointer (some ⟨b,o,none⟩)):=by
 have h:=rvQ h;obtain⟨b,o,cs,T',fz,e,h1⟩:=h;exact⟨b,o,e,b,o,cs,T',fz,rfl,h1⟩
theorem ye {t:TypeId} {f:Nat} {a tv:TV} {u:Value} (h:iW T s t f a gz=some tv) (L:ll s.hp B) (ha:Rv B a u):∃r,(∀w,(Instr.fieldAt t u f).run T.P w= .ok r w)/\Rv B tv r:=by
 unfold iW at h;split at h
 ·rename_i fs ty hu ht;split at h
  ·rename_i x o hf
   replace h:=aQ h;obtain⟨hc,h⟩:=h
   rw[adr,adr] at hc;obtain⟨ho,h1,h2⟩:=hc;have ho:=adu ho;obtain⟨fd,hfd,ho',hft⟩:=sw (adv h1);rw[hft] at h2;obtain⟨i,_,hi',hsi⟩:=rF (P:=T.P) (t:=fd.type) (adv h2);have qd:¬i.size=0:=by have:=adv h2;omega
   have wb:∀(w:World) (a:Addr),(Instr.fieldAt t (.pointer (some a)) f).run T.P w= .ok (.pointer (some (a.add o))) w:=λw a=>by
    rw[ho,ho'];simp[Instr.fieldAt,run_underlying (bp hu).1,hfd,Instr.sureAddr,fieldPlace,sizeOf,typeInfo,hi',qd]
   split at h
   ·rename_i σ v;split at h
    ·rename_i v' hx;obtain⟨e1,e2⟩:=e_ hx;subst e1;subst e2;split at h
     ·rename_i u' v2 hw
      replace h:=aQ h;obtain⟨hd,h⟩:=h
      have hd:=aed hd;subst hd;cases h;obtain⟨g1,g2,g3⟩:=vS (B:=B) (dk σ v) hf;rw[show fx f (.v σ v)= .v u' v2 from hw] at g3;obtain⟨b,q,rfl,k⟩:=XJ ha;refine⟨_,λw=>wb w _,?_⟩;rw[Addr.add_mid];exact mkQ (Db g2 g3 k)
     ·cases h
    ·cases h
   ·rename_i j w;split at h
    ·rename_i τ hτ
     replace h:=aQ h;obtain⟨hd,h⟩:=h
     rw[adr] at hd;have hs:=adv hd.2;have hd:=aed hd.1;subst hd;cases h;obtain⟨h0,b,z,q,g1,g2,rfl⟩:=YC ha;have hl:=L j (xM hs) h0;have hτ:(nth .bu s.hp j).b.iH w=some τ:=hτ;rw[<-yU hl w] at hτ;refine⟨_,λw=>wb w _,?_⟩;rw[Addr.add_mid];refine mkP h0 g1 ?_;rw[xx hτ g2];show(match(match τ.o_ f with|some (y,o)=>(match Ty.off [] y with|some q=>some (o+q)|none=>none)|none=>none) with|some r=>some (q+r)|none=>none)=_;rw[hf];rfl
    ·cases h
   ·cases h
  ·cases h
 ·cases h
theorem run_indexAt_slice {P:Program} {t e:TypeId} {i:TypeInfo} (ht:bU P t=some (.slice e)) (hi:P.info? e=some i) {w:World} {a:Addr} {n cap j z:Nat} {k:IntKind} (hj:j<n) (hz:i.size=z):
 (Instr.indexAt t (.slice (some a) n cap) (.int k (j:Int))).run P w= .ok (.pointer (some (a.add (j*z)))) w:=by
 subst hz;have h1:(j:Int)<(n:Int):=ade;simp[Instr.indexAt,asIntOf,run_underlying (bp ht).1,sizeOf,typeInfo,hi];intro h;omega
theorem run_indexAt_array {P:Program} {t e:TypeId} {n:Nat} {i:TypeInfo} (ht:bU P t=some (.array n e)) (hi:P.info? e=some i) {w:World} {a:Addr} {j z:Nat} {k:IntKind} (hj:j<n) (hz:i.size=z):
 (Instr.indexAt t (.pointer (some a)) (.int k (j:Int))).run P w= .ok (.pointer (some (a.add (j*z)))) w:=by
 subst hz;have h1:(j:Int)<(n:Int):=ade;simp[Instr.indexAt,asIntOf,run_underlying (bp ht).1,sizeOf,typeInfo,hi,Instr.sureAddr];intro h;omega
theorem ot {m n z:Nat} (h:m<n):m*z+z<=n*z:=by
 have:=ae4 z (show m+1<=n from h)
 rwa [aei,aeo] at this
theorem yf {t:TypeId} {a i tv:TV} {u v:Value} (h:iX T s t a i gz=some tv) (L:ll s.hp B) (ha:Rv B a u) (hi:Rv B i v):∃r,(∀w,(Instr.indexAt t u v).run T.P w= .ok r w)/\Rv B tv r:=by
 unfold iX at h;split at h
 ·rename_i ε ht
  replace h:=aQ h;obtain⟨h1,h⟩:=h
  have h1:=adv h1;have ref:∀{j o st:Nat} {n:Option Nat} {e:Ty} {l:(Ty.sl e).T} {f:N->R TV},nth .bu s.hp j=⟨st, .row e l⟩->st<=2->uX a=some (j,o,n)->cg T.P ε=e.cells->BW (n.getD (List.length l)) i f=some tv->
   (∀m,f m=some tv->tv= .p j [.rU (o+m)])->∃r,(∀w,(Instr.indexAt t u v).run T.P w= .ok r w)/\Rv B tv r:=λ{j o st n e l f} hE hs hx hz hb hf=>by
   obtain⟨r0,l',r1,r2,r3,r4⟩:=B5 L hE hs hx ha;obtain⟨m,h2,h3⟩:=nV hb;obtain⟨h4,k,rfl⟩:=nW h2 hi;rw[hf m h3];obtain⟨ii,DK,j6⟩:=j9 h1 hz;obtain⟨_,r4⟩:=r4;cases hp:B.b j with
   |none=>rw[hp] at r4;obtain⟨e0,_⟩:=r4;omega
   |some x=>
    obtain⟨b,sz⟩:=x;rw[hp] at r4;rcases r4 with⟨c,rfl,c1,c2⟩|⟨e0,_⟩
    ·refine⟨_,λw=>run_indexAt_slice ht DK h4 j6,?_⟩;rw[Addr.add_mid,<-aei];refine mkP r0 hp ?_;rw[r1];show(if o+m<List.length l' then(match e.off [] with|some q=>some ((o+m)*e.cells+q)|none=>none) else none)=_;rw[adp (by rw[r2];omega)];rfl
    ·omega
  split at h
  ·rename_i e l
   replace h:=aQ h;obtain⟨hz,h⟩:=h
   have hz:=adu hz;obtain⟨m,h2,h3⟩:=nV h;obtain⟨h4,k,rfl⟩:=nW h2 hi;have h4:m<List.length l:=h4;cases h3;obtain⟨ii,DK,j6⟩:=j9 h1 hz;obtain⟨_,_,⟨e0,_⟩|⟨b,o,c,cs,T',fz,rfl,g1,g2,g3,g4,g5⟩⟩:=rvL ha
   ·rw[e0] at h4;exact absurd h4 (adS _)
   ·refine⟨_,λw=>run_indexAt_slice ht DK h4 j6,?_⟩;rw[Addr.add_mid];have:=ot (z:=e.cells) h4;exact mkQ ⟨b,o+m*e.cells,cs,T',fz,rfl,g2,g3,ade,bQ.nth (P:=bI B.F B.w e) g5 (mu h4)⟩
  ·rename_i j;generalize hE:s.bP j=E at h;obtain⟨st,tb⟩:=E;cases tb with
   |row e l=>
    replace h:=aQ h;obtain⟨hc,h⟩:=h
    rw[adr] at hc;refine ref (n:=none) hE (adv hc.1) rfl (adu hc.2) h λm e=> ?_
    cases e;rw[adI]
   |_=>cases h
  ·rename_i j n;generalize hE:s.bP j=E at h;obtain⟨st,tb⟩:=E;cases tb with
   |row e l=>
    replace h:=aQ h;obtain⟨hc,h⟩:=h
    rw[adr] at hc;refine ref (n:=some n) hE (adv hc.1) rfl (adu hc.2) h λm e=> ?_
    cases e;rw[adI]
   |_=>cases h
  ·rename_i j o n;generalize hE:s.bP j=E at h;obtain⟨st,tb⟩:=E;cases tb with
   |row e l=>
    replace h:=aQ h;obtain⟨hc,h⟩:=h
    rw[adr] at hc;refine ref (n:=some n) hE (adv hc.1) rfl (adu hc.2) h λm e=> ?_
    cases e;rfl
   |_=>cases h
  ·cases h
 ·rename_i n ε ht
  replace h:=aQ h;obtain⟨h1,h⟩:=h
  have h1:=adv h1;split at h
  ·rename_i m e l
   replace h:=aQ h;obtain⟨hc,h⟩:=h
   rw[adr] at hc;have hn:=adu hc.1;subst hn;have hz:=adu hc.2;obtain⟨q,h2,h3⟩:=nV h;obtain⟨h4,k,rfl⟩:=nW h2 hi;have h4:q<n:=h4;cases h3;obtain⟨ii,DK,j6⟩:=j9 h1 hz;obtain⟨b,o,rfl,hp⟩:=XJ ha;refine⟨_,λw=>run_indexAt_array ht DK h4 j6,?_⟩;rw[Addr.add_mid];refine mkQ (Db (t:= .ar n e) (x:=l) (by exact ot h4) (λc o hr=> ?_) hp);obtain⟨k1,k2⟩:=hr;exact bQ.nth (P:=bI B.F B.w e) k2 (mu (by rw[k1];exact h4))
  ·rename_i j w;split at h
   ·rename_i m e hτ
    replace h:=aQ h;obtain⟨hc,h⟩:=h
    rw[adr,adr] at hc;have hn:=adu hc.1.1;subst hn;have hz:=adu hc.1.2;have hs:=adv hc.2;obtain⟨q,h2,h3⟩:=nV h;obtain⟨h4,k,rfl⟩:=nW h2 hi;have h4:q<n:=h4;cases h3;obtain⟨ii,DK,j6⟩:=j9 h1 hz;obtain⟨h0,b,z,p,g1,g2,rfl⟩:=YC ha;have hl:=L j (xM hs) h0;have hτ:(nth .bu s.hp j).b.iH w=some _:=hτ;rw[<-yU hl w] at hτ;refine⟨_,λw=>run_indexAt_array ht DK h4 j6,?_⟩;rw[Addr.add_mid];refine mkP h0 g1 ?_;rw[xx hτ g2];show(match(if q<n then(match Ty.off [] e with|some r=>some (q*e.cells+r)|none=>none) else none) with|some r=>some (p+r)|none=>none)=_;rw[adp h4];rfl
   ·cases h
  ·cases h
 ·cases h
theorem D3 {P:Program} {t:TypeId} (hk:known P t=true) {w:World} {cs:Array Value} {o:Nat} (ho:o+cg P t<=cs.size) (h1:isAgg P t=false->cg P t=1):
 (part t cs o).run P w= .ok (if isAgg P t=true then .agg (cs.extract o (o+cg P t)) else fw cs o) w:=by
 obtain⟨d,hd⟩:=ob hk;cases sB:isAgg P t with
 |true=>
  obtain⟨d',hd',a0q,i,hi⟩:=wk sB;rw[adp rfl];unfold part;rw[Sem.run_bind,lI hd,sB];simp[P0 hi]
 |false=>
  have:=h1 sB;rw[adq (by decide)];unfold part;rw[Sem.run_bind,lI hd,sB];simp[j4 (show o<cs.size by omega)]
theorem P1 {x:TV} {v:Value} (hx:k_ x=true) (hg:x.ag=true) (h:Rv B x v):∃cs,v= .agg cs/\cs.size=x.cells/\qi cs/\Rp B x (fw cs) 0:=by
 rw[gI hx] at h;obtain⟨h1,h2⟩:=h;rw[hg] at h1;obtain⟨cs,rfl,h3,h4⟩:=h1;exact⟨cs,rfl,h3,h4,h2⟩
theorem JU {t:TypeId} {k:Nat} {a tv:TV} {u:Value} (h:td T t k a gz=some tv) (ha:Rv B a u):∃r,(∀w,(Instr.field t u k).run T.P w= .ok r w)/\Rv B tv r:=by
 unfold td at h;split at h
 ·rename_i fs ty ht hty;split at h
  ·rename_i y o hf
   replace h:=aQ h;obtain⟨hc,h⟩:=h
   simp only[adr] at hc;obtain⟨h1,h2,h3,h4,h5,h6,h7,h8,h9,Rm⟩:=hc;have h1:=adu h1;have h3:=adv h3;have h9:=adu h9;have Rm:(fx k a).ag=isAgg T.P (gj fs k):=by revert Rm;cases(fx k a).ag<;>cases isAgg T.P (gj fs k)<;>simp
   obtain⟨fd,hfd,ho',hft⟩:=sw (adv h2);cases h;obtain⟨cs,rfl,c1,c2,c3⟩:=P1 h6 h7 ha;obtain⟨g1,g2,g3⟩:=vS (B:=B) h5 hf;have jq:=(cV y _ g1).1;have hct:=(cV ty a h5).1;have h6':=vm (x:=fx k a) h8;have hle:o+(fx k a).cells<=cs.size:=by rw[jq,c1,hct];exact g2
   have R:Range B 0 o (fx k a) cs:=by
    refine⟨hle,by have:=g3 _ _ c3;rw[adI] at this;exact this,λi hi=>c2 _ ?_⟩;show cs.getD (o+i) _∈cs;rw[adD,adX ade];exact Array.getElem_mem _
   refine⟨_,λw=> ?_,A' (P:=T.P) (t:=gj fs k) h8 R h9 ade Rm h6'⟩;have hp:=D3 (P:=T.P) h4 (w:=w) (cs:=cs) (o:=o) (by rw[<-h9];exact hle) (λe'=>by rw[<-h9];exact h6' (Rm.trans e'));rw[<-hp,h1,ho',hft];simp[Instr.field,run_underlying (bp ht).1,hfd,asAgg]
  ·cases h
 ·cases h
theorem JV {t:TypeId} {a i tv:TV} {u v:Value} (h:te T t a i gz=some tv) (ha:Rv B a u) (hi:Rv B i v):∃r,(∀w,(Instr.index t u v).run T.P w= .ok r w)/\Rv B tv r:=by
 unfold te at h;split at h
 ·rename_i n ε ht;split at h
  ·rename_i m e l
   replace h:=aQ h;obtain⟨hc,h⟩:=h
   simp only[adr] at hc;obtain⟨h1,h2,h3,h4,h5⟩:=hc;have h1:=adu h1;have h2:=adu h2;have h3:=adv h3;have h5:e.ag=isAgg T.P ε:=by revert h5;cases e.ag<;>cases isAgg T.P ε<;>simp
   subst h1;obtain⟨q,g2,g3⟩:=nV h;obtain⟨g4,k,rfl⟩:=nW g2 hi;have g4:q<n:=g4;cases g3;obtain⟨cs,rfl,c1,c2,c3,c4⟩:=P1 rfl rfl ha;have c1:cs.size=n*e.cells:=c1;have hle:=ot (z:=e.cells) g4;obtain⟨ii,DK,j6⟩:=j9 (P:=T.P) (by rw[h2];exact h3) h2;have h6:=vm (x:= .v e (a8 (e:=e) l q)) rfl;have R:Range B 0 (q*e.cells) (.v e (a8 (e:=e) l q)) cs:=by
    have k0:bI B.F B.w e (a8 (e:=e) l q) (fw cs) (0+q*e.cells):=bQ.nth (P:=bI B.F B.w e) c4 (mu (by rw[c3];exact g4));rw[adI] at k0;exact⟨by show q*e.cells+e.cells<=cs.size;rw[c1];exact hle,k0,fh e _ _ _ k0⟩
   refine⟨_,λw=> ?_,A' (P:=T.P) (t:=ε) rfl R h2.symm h3 h5 h6⟩;have hp:=D3 (P:=T.P) h4 (w:=w) (cs:=cs) (o:=q*e.cells) (by rw[h2];omega) (λe'=>by rw[h2];exact h6 (h5.trans e'));rw[<-hp];have h1:¬n<=q:=Nat.not_le.2 g4;simp[Instr.index,asIntOf,run_underlying (bp ht).1,sizeOf,typeInfo,DK,j6];exactλe=>absurd e h1
  ·cases h
 ·rename_i ht;split at h
  ·rename_i l;obtain⟨q,g2,g3⟩:=nV h;obtain⟨g4,k,rfl⟩:=nW g2 hi;cases g3;obtain⟨st,rfl,rfl,h2⟩:=PV ha;have g4:q<(bZ st).length:=g4;rw[dv] at g4;refine⟨.int .u8 ((st[q]).toNat:Int),λw=> ?_,?_⟩
   ·simp[Instr.index,asIntOf,run_underlying (bp ht).1,g4]
   ·have e:fP (bZ st) q=(st[q]).toNat:=po st q g4;show Rv B (.v (.u 4) (fP (bZ st) q)) _;rw[e];exact PT (k:=4) (by decide) (by decide) (st[q]).toNat_lt
  ·cases h
 ·cases h
theorem HJ {n:Nat} (h:n<=9223372036854775807):ix 3 (n:Int):=by
 have e:fo 3=18446744073709551616:=rfl;show-(fo 3:Int)<=2*(n:Int)/\2*(n:Int)<fo 3;rw[e];omega
theorem AH {n:Nat} (h:n<=9223372036854775807):Rv B (.v (.i 3) (Cv n)) (goInt n):=TG (k:=3) (by decide) (HJ h)
theorem P7 {F:Nat->Prop} {w:World} {z n:Nat} {P:(Nat->Value)->Nat->Prop} {v:Value} (h:vj F w z n P v):n<dU/\∃ad c,v= .slice ad n c:=by
 obtain⟨h0,_,⟨rfl,a,c,rfl,_⟩|⟨b,o,c,_,_,_,rfl,_⟩⟩:=h<;>exact⟨h0,_,_,rfl⟩
theorem Sf {p:Option (Nat×Nat)} {z o n:Nat} {v:Value} (h:fH p z o n v):n<dU/\∃ad c,v= .slice ad n c:=by
 obtain⟨_,ad,c,h1,_⟩:=r8 h (ae5 0) (ae5 n);exact⟨h.1,ad,c,h1⟩
theorem SF {t:TypeId} {a:TV} {n:Nat} {u:Value} (h:Bp T s t a some=some n) (L:ll s.hp B) (ha:Rv B a u) (ts:Array TypeId) (ty:TypeId) (ht:ts[0]? =some t):(∀w,(Builtin.len_ ts ty #[u]).run T.P w= .ok (goInt n) w)/\n<=9223372036854775807:=by
 have b62:dU=9223372036854775808:=rfl;unfold Bp at h;split at h
 ·rename_i m e hu
  replace h:=aQ h;obtain⟨hc,h⟩:=h
  cases h;exact⟨λw=>by simp[Builtin.len_,ht,run_underlying (bp hu).1,jH],adv hc⟩
 ·rename_i hu;split at h
  ·cases h;obtain⟨st,rfl,rfl,h2⟩:=PV ha;refine⟨λw=>by simp[Builtin.len_,ht,run_underlying (bp hu).1,EV,dv],?_⟩;have h2:(bZ st).length<dU:=h2;show(bZ st).length<=_;omega
  ·cases h
 ·rename_i ε hu;have run:∀{ad:Option Addr} {m c:Nat} (w:World),(Builtin.len_ ts ty #[.slice ad m c]).run T.P w= .ok (goInt m) w:=λw=>by simp[Builtin.len_,ht,run_underlying (bp hu).1]
  have ref:∀{j o st:Nat} {m:Option Nat} {e:Ty} {l:(Ty.sl e).T},nth .bu s.hp j=⟨st, .row e l⟩->st<=2->uX a=some (j,o,m)->m.getD (List.length l)=n->
   (∀w,(Builtin.len_ ts ty #[u]).run T.P w= .ok (goInt n) w)/\n<=9223372036854775807:=λ{j o st m e l} hE hs hx hn=>by
   obtain⟨r0,l',r1,r2,r3,r4⟩:=B5 L hE hs hx ha;obtain⟨hb,ad,c,rfl⟩:=Sf r4;rw[hn] at hb⊢;exact⟨run,ade⟩
  split at h
  ·cases h;obtain⟨hb,ad,c,rfl⟩:=P7 (rvL ha);exact⟨run,by show List.length _<=_;omega⟩
  ·rename_i j;generalize hE:s.bP j=E at h;obtain⟨st,tb⟩:=E;cases tb with
   |row e l=>
    replace h:=aQ h;obtain⟨hc,h⟩:=h
    cases h;exact ref (m:=none) hE (adv hc) rfl rfl
   |_=>cases h
  ·rename_i j n;generalize hE:s.bP j=E at h;obtain⟨st,tb⟩:=E;cases tb with
   |row e l=>
    replace h:=aQ h;obtain⟨hc,h⟩:=h
    cases h;exact ref (m:=some _) hE (adv hc) rfl rfl
   |_=>cases h
  ·rename_i j o n;generalize hE:s.bP j=E at h;obtain⟨st,tb⟩:=E;cases tb with
   |row e l=>
    replace h:=aQ h;obtain⟨hc,h⟩:=h
    cases h;exact ref (m:=some _) hE (adv hc) rfl rfl
   |_=>cases h
  ·cases h;obtain⟨_,a,rfl⟩:=d7 rfl rfl ha;exact⟨run,ae5 _⟩
  ·cases h
 ·cases h
theorem XT {op:UnOp} {a tv:TV} {u:Value} (h:YH op a gz=some tv) (ha:Rv B a u):∃r,(∀w,(Op.unary op u).run T.P w= .ok r w)/\Rv B tv r:=by
 unfold YH at h;split at h
 ·cases h;rename_i x;obtain⟨rfl,_,_⟩:=Kd ha;refine⟨_,λw=>by simp only[Op.unary,Op.intArith,Sem.run_pure];rfl,?_⟩;show Rv B (.v (.i 3) (RZ 3 x)) (.int (kd 3) ((kd 3).wrap (0-(x:Int))));rw[NZ,Int.zero_sub];exact lN (by decide) _
 ·cases h;obtain rfl:=Sk ha;exact⟨_,λw=>by simp only[Op.unary,Sem.run_pure];rfl,y6 _⟩
 ·cases h
theorem xt {mx:Bool} {a b tv:TV} {u v:Value} (h:mC mx a b gz=some tv) (ha:Rv B a u) (hb:Rv B b v) (ts:Array TypeId) (ty:TypeId):
 ∃r,(∀w,((if mx=true then Builtin.max_ else Builtin.min_) ts ty #[u,v]).run T.P w= .ok r w)/\Rv B tv r:=by
 unfold mC at h;split at h
 ·rename_i x y;cases h;obtain⟨rfl,_,rx⟩:=Kd ha;obtain⟨rfl,_,ry⟩:=Kd hb;cases mx with
  |true=>
   refine⟨.int .i64 (max x y),λw=> ?_,(by rw[cond_true,NW];exact TG (k:=3) (by decide) (by show ix 3 (max (x:Int) y);rcases Int.le_total x y with h|h;(·rw[Int.max_eq_right h];exact ry);rw[Int.max_eq_left h];exact rx))⟩;simp[Builtin.max_,Builtin.max2,kd];split<;>omega
  |false=>
   refine⟨.int .i64 (min x y),λw=> ?_,(by rw[cond_false,NX];exact TG (k:=3) (by decide) (by show ix 3 (min (x:Int) y);rcases Int.le_total x y with h|h;(·rw[Int.min_eq_left h];exact rx);rw[Int.min_eq_right h];exact ry))⟩;simp[Builtin.min_,Builtin.min2,kd];split<;>omega
 ·rename_i k x k' y
  replace h:=aQ h;obtain⟨hc,h⟩:=h
  have hc:=adu hc;subst hc;cases h;obtain⟨rfl,h4,h8,rx⟩:=Sl ha;obtain⟨rfl,_,_,ry⟩:=Sl hb;cases mx with
  |true=>
   refine⟨.int (kd k) ((max x y:Nat):Int),λw=> ?_,(by rw[cond_true,Xj];exact PT h4 h8 (by show max (x:Nat) y<_;rcases Nat.le_total x y with h|h;(·rw[Nat.max_eq_right h];exact ry);rw[Nat.max_eq_left h];exact rx))⟩;simp[Builtin.max_,Builtin.max2];split<;>omega
  |false=>
   refine⟨.int (kd k) ((min x y:Nat):Int),λw=> ?_,(by rw[cond_false,Xm];exact PT h4 h8 (by show min (x:Nat) y<_;rcases Nat.le_total x y with h|h;(·rw[Nat.min_eq_left h];exact rx);rw[Nat.min_eq_right h];exact ry))⟩;simp[Builtin.min_,Builtin.min2];split<;>omega
 ·cases h
theorem uD {ρ:Type} {c:Bool} {f g:Unit->R ρ} {y:ρ} (h:af c f g=some y):(c=true/\f ()=some y)\/(c=false/\g ()=some y):=by
 cases c
 ·exact .inr ⟨rfl,h⟩
 ·exact .inl ⟨rfl,h⟩
theorem mW {ρ:Type} {b:Bool} {x:Option ρ} {y:ρ} (h:(bif b then none else x)=some y):b=false/\x=some y:=by
 cases b
 ·exact⟨rfl,h⟩
 ·cases h
theorem Pn {c a b tv:TV} {u v x:Value} (h:zM c a b gz=some tv) (hc:Rv B c x) (ha:Rv B a u) (hb:Rv B b v):∃t,x= .bool t/\Rv B tv (if t=true then u else v):=by
 unfold zM at h;split at h
 ·rename_i t;obtain rfl:=Sk hc;refine⟨_,rfl,?_⟩;split at h
  ·rename_i p q;cases h;obtain rfl:=Sk ha;obtain rfl:=Sk hb;have e:(if t=true then Value.bool p else .bool q)= .bool (cC (τ:= .b) t p q):=by unfold cC;cases(t:Bool)<;>rfl
   rw[e];exact y6 _
  ·rcases uD h with⟨e,h⟩|⟨e,h⟩
   ·obtain⟨_,h⟩:=mW h;cases h;rw[show t=true from e,adp rfl];exact ha
   ·obtain⟨_,h⟩:=mW h;cases h;rw[show t=false from e,adq (by decide)];exact hb
 ·cases h
end
end
noncomputable section
theorem ly.k_ {H:List TE} {t:Ty} {x:TV} {y:t.T} (h:ly H t x y):k_ x=true:=by cases h<;>rfl
def i9 (H:List TE) (B:Bs) (l:List Nat):Prop:=∀j∈l,(B.e j).st<=2/\(B.e j).b=(nth .bu H j).b
theorem i9.refl {B:Bs} {l:List Nat} (h:∀j∈l,(nth .bu B.H j).st<=2):i9 B.H B l:=λj hj=>⟨h j hj,rfl⟩
theorem ly.same {H:List TE} {B:Bs} {t:Ty} {x:TV} {y:t.T} (h:ly H t x y):i9 H B (ids x)->ly B.H t x y:=by
 have key:∀{j st:Nat} {e:Ty} {l:(Ty.sl e).T},nth .bu H j=⟨st, .row e l⟩->(B.e j).st<=2/\(B.e j).b=(nth .bu H j).b->∃st',nth .bu B.H j=⟨st', .row e l⟩/\st'<=2:=λ{j st e l} hE hS=>by
  obtain⟨h1,h2⟩:=hS;rw[hE] at h2;have h1:(nth .bu B.H j).st<=2:=h1;have h2:(nth .bu B.H j).b= .row e l:=h2;revert h1 h2;generalize nth .bu B.H j=E;intro h1 h2;obtain⟨st',tb⟩:=E;have h2:tb=_:=h2;subst h2;exact⟨st',rfl,h1⟩
 induction h with
 |v t x=>intro _;exact .v t x
 |nl e=>intro _;exact .nl e
 |r e j st l hE hs=>intro hS;obtain⟨st',h1,h2⟩:=key hE (hS j adt);exact .r e j st' l h1 h2
 |rn e j st n l hE hs=>intro hS;obtain⟨st',h1,h2⟩:=key hE (hS j adt);exact .rn e j st' n l h1 h2
 |rs e j st o n l hE hs=>intro hS;obtain⟨st',h1,h2⟩:=key hE (hS j adt);exact .rs e j st' o n l h1 h2
 |un=>intro _;exact .un
 |pr a c x y p q h1 h2 i1 i2=>intro hS;exact .pr a c x y p q (i1 λj hj=>hS j (adM _ hj)) (i2 λj hj=>hS j (adH _ hj))
 |gv k i t l c p q r s b h1 h2 h3 h4 h5 i1 i2 i3 i4 i5=>
  intro hS;exact .gv k i t l c p q r s b (i1 λj hj=>hS j (adM _ hj)) (i2 λj hj=>hS j (adH _ (adM _ hj))) (i3 λj hj=>hS j (adH _ (adH _ (adM _ hj))))
   (i4 λj hj=>hS j (adH _ (adH _ (adH _ (adM _ hj))))) (i5 λj hj=>hS j (adH _ (adH _ (adH _ (adH _ (adM _ hj))))))
theorem ly.live {H:List TE} {t:Ty} {x:TV} {y:t.T} (h:ly H t x y):∀j∈ids x,(nth .bu H j).st<=2:=by
 induction h with
 |v t x=>intro j hj;cases hj
 |nl e=>intro j hj;cases hj
 |r e j st l hE hs=>intro i hi;obtain rfl:=adF.1 hi;rw[hE];exact hs
 |rn e j st n l hE hs=>intro i hi;obtain rfl:=adF.1 hi;rw[hE];exact hs
 |rs e j st o n l hE hs=>intro i hi;obtain rfl:=adF.1 hi;rw[hE];exact hs
 |un=>intro j hj;cases hj
 |pr a c x y p q h1 h2 i1 i2=>intro j hj;exact(adC.1 hj).elim (i1 j) (i2 j)
 |gv k i t l c p q r s b h1 h2 h3 h4 h5 i1 i2 i3 i4 i5=>
  intro j hj;rcases adC.1 hj with hj|hj
  ·exact i1 j hj
  rcases adC.1 hj with hj|hj
  ·exact i2 j hj
  rcases adC.1 hj with hj|hj
  ·exact i3 j hj
  rcases adC.1 hj with hj|hj
  ·exact i4 j hj
  rcases adC.1 hj with hj|hj
  ·exact i5 j hj
  ·cases hj
section
variable {T:CT} {s:TS} {B:Bs} {X:Fx}
theorem KG {P:Program}:∃D,10000=20+D/\(20<=P.depth->∃D',P.depth=20+D'):=⟨9980,rfl,λh=>⟨P.depth-20,ade⟩⟩
theorem XS (hd:20<=T.P.depth) {op:BinOp} {t:TypeId} {a b tv:TV} {u v:Value} (h:SD T s op t a b gz=some tv) (I:bw X B) (hS:i9 s.hp B (ids a++ids b)) (ha:Rv B a u) (hb:Rv B b v) (x y:Operand):
 ∃r,(∀w,(eqGuard op t x y u v).run T.P w= .ok () w/\(binOp op t u v).run T.P w= .ok r w)/\Rv B tv r:=by
 unfold SD at h;split at h
 ·rename_i ty ht
  replace h:=aQ h;obtain⟨hc,h⟩:=h
  rw[adr,adr] at hc;obtain⟨⟨hk,sB⟩,kY⟩:=hc;split at h
  ·rename_i p q hp hq;have sa:=du ty a hp;have sb:=du ty b hq;unfold Ax at hk;split at hk
   ·rename_i ks ks' e1 e2;have hk:=aed hk;subst hk;have RH:ty.pos=true:=by
     have:∀(t:Ty) l,t.kinds=some l->t.pos=true:=by
      intro t
      induction t with
      |pr a c i1 i2=>
       intro l hl;have hl:(match a.kinds,c.kinds with|some x,some y=>some (x++y)|_,_=>none)=some l:=hl;split at hl
       ·rename_i g1 g2;show(a.pos&&c.pos)=true;rw[i1 _ g1,i2 _ g2];rfl
       ·cases hl
      |sl e _=>intro l hl;cases hl
      |ar n e _=>intro l hl;cases hl
      |gv=>intro l hl;cases hl
      |_=>intro l _;rfl
     exact this ty ks e2
    have sa':=sa.same λj hj=>hS j (adM _ hj)
    have sb':=sb.same λj hj=>hS j (adH _ hj)
    obtain⟨vu,ru⟩:=sa'.whole I (G:=λ_=>False) (λ_ h=>h.elim) RH (λ_ _ _ _ _ h=>h) ha;obtain⟨vv,rv⟩:=sb'.whole I (G:=λ_=>False) (λ_ h=>h.elim) RH (λ_ _ _ _ _ h=>h) hb;rw[sB] at vu vv;obtain⟨cs,rfl,c1,_⟩:=vu;obtain⟨ds,rfl,d1,_⟩:=vv;obtain⟨D,hD,a7Q⟩:=KG (P:=T.P);obtain⟨D',hD'⟩:=a7Q hd;obtain⟨⟨e3,e4,_,e5⟩,_⟩:=A6 (P:=T.P) 20 t ks e1 D;obtain⟨_,eg⟩:=A6 (P:=T.P) 20 t ks e1 D';have haT:isAgg T.P t=true:=by
     unfold isAgg;cases hu:bU T.P t with
     |none=>rw[hu] at kY;cases kY
     |some d=>rw[hu] at kY;cases d<;>first|rfl|cases kY
    obtain⟨k1,k2⟩:=sH (F:=λ_=>False) (w:=B.w) ty ks e2;have kall:∀{cs:Array Value} {p:ty.T},cs.size=ty.cells->bI (λ_=>False) B.w ty p (cv (.agg cs)) 0->oC ks cs 0:=λ{cs p} hc hr i k hk=>by
     have hi:i<cs.size:=by rw[hc,<-k1];exact(aee.1 hk).1
     refine⟨fw cs i,by rw[adI];exact j4 hi,?_⟩;have:=(k2 p _ 0 hr).1 i k hk
     rwa [adI] at this
    have run:∀w,∃r,(Op.equal t (.agg cs) (.agg ds)).run T.P w= .ok r w/\(r=true↔BO cs ds 0 ks.length):=λw=>by
     have:=e5 haT w cs ds (kall c1 ru) (kall d1 rv);rw[<-hD] at this;exact this
    have Cr:ty.DJ p q=true↔BO cs ds 0 ks.length:=by
     rw[(k2 p _ 0 ru).2 q _ 0 rv];constructor
     ·intro h i hi;have:=h i hi;rw[adI] at this⊢;rw[j4 (by rw[c1,<-k1];exact hi),j4 (by rw[d1,<-k1];exact hi)];exact congrArg some this
     ·intro h i hi;have:=h i hi;rw[adI] at this⊢;rw[j4 (by rw[c1,<-k1];exact hi),j4 (by rw[d1,<-k1];exact hi)] at this;exact Option.some.inj this
    have run2:∀w,(Op.equal t (.agg cs) (.agg ds)).run T.P w= .ok (ty.DJ p q) w:=λw=>by
     obtain⟨r,h1,h2⟩:=run w;have:r=ty.DJ p q:=by rw[ae8,h2,Cr]
     rw[<-this];exact h1
    have guard:∀w,(eqGuard op t x y (.agg cs) (.agg ds)).run T.P w= .ok () w:=λw=>nG w (by simp) λ_ _ _ _=>by rw[hD'];exact eg
    split at h
    ·cases h;exact⟨_,λw=>⟨guard w,by simp only[binOp,Sem.run_bind,run2,Sem.run_pure];rfl⟩,y6 _⟩
    ·cases h;exact⟨_,λw=>⟨guard w,by simp only[binOp,Sem.run_bind,run2,Sem.run_pure];rfl⟩,y6 _⟩
    ·cases h
   ·cases hk
  ·cases h
 ·cases h
end
structure Seq (P:Program) (z:Nat) (x:Value) (m:Nat) (news:List Value) (w:World):Prop where
 len:∀w':World,(Builtin.lenOf x).run P w'= .ok m w'
 cells:∀w':World,w'.heap=w.heap->∀q,q<=m->(Builtin.firstCells z q x).run P w'= .ok (news.take (q*z)).toArray w'
 size:news.length=m*z
 one:∀u∈news,u.oneCell'=true
theorem Iw {w w':World} (h:w'.heap=w.heap) (a:Addr):w'.cell? a=w.cell? a:=by simp only[World.cell?,h]
theorem Seq.nil {P:Program} {z:Nat} {w:World} {a:Option Addr} {c:Nat}:Seq P z (.slice a 0 c) 0 [] w where
 len:=λ_=>rfl
 cells:=λw' _ q hq=>by
  obtain rfl:q=0:=ade;cases a with
  |none=>rw[List.take_nil];exact run_firstCells_none w' z 0 0 c
  |some a=>rw[List.take_nil];exact run_firstCells_some w' z 0 a 0 c [] (by simp) (λ_ _ h=>by cases h)
 size:=by simp
 one:=λ_ h=>by cases h
theorem Seq.ofString {P:Program} {w:World} (s:ByteArray):Seq P 1 (.string s) s.size (byteCells s) w where
 len:=λ_=>rfl
 cells:=λw' _ q hq=>by
  simp only[Builtin.firstCells,Sem.run_pure,Nat.mul_one];congr 1;apply Array.ext';rw[Array.toList_map,ByteArray.data_extract,Array.toList_extract,List.toList_toArray,byteCells,List.extract_eq_take_drop,List.drop_zero,Nat.sub_zero,List.map_take]
 size:=by rw[byteCells_length,Nat.mul_one]
 one:=λu hu=>by obtain⟨_,_,rfl⟩:=List.mem_map.1 hu;rfl
theorem Seq.Hs {P:Program} {z:Nat} {w:World} {b o n c:Nat} {cs:Array Value} {T:TypeId} {fz:Nat×Nat} (hb:w.heap[b]? =some (.cells cs T fz)) (hz:o+n*z<=cs.size) (h1:∀i,i<n*z->(fw cs (o+i)).oneCell'=true):
 Seq P z (.slice (some ⟨b,o,none⟩) n c) n (cs.extract o (o+n*z)).toList w where
 len:=λ_=>rfl
 cells:=λw' hw q hq=>by
  have hq':=ae4 z hq;refine run_firstCells_some w' z q _ n c _ ?_ λj u hj=> ?_
  ·rw[adY,Array.length_toList,Array.size_extract];omega
  ·rw[List.getElem?_take] at hj;split at hj
   ·rw[adU,Array.getElem?_extract] at hj;split at hj
    ·rw[Addr.add_mid,Iw hw,qu hb];exact hj
    ·cases hj
   ·cases hj
 size:=by rw[Array.length_toList,Array.size_extract];omega
 one:=λu hu=>by
  rw[Array.mem_toList_iff] at hu;obtain⟨i,hi,rfl⟩:=Array.mem_iff_getElem.1 hu;rw[Array.size_extract] at hi;have:=h1 i ade;rw[<-qt (n:=n*z) hz ade] at this
  rwa [fw,adD,adX (by rw[Array.size_extract];omega)] at this
def cl (l:List Value) (i:Nat):Value:=l.getD i undef
theorem gT (cs:Array Value):cl cs.toList=fw cs:=by
 funext i;unfold cl fw;rw[adG,adU,adD]
theorem vj.seq {P:Program} {F:Nat->Prop} {w:World} {e:Ty} {l:(Ty.sl e).T} {v:Value} (H:vj F w e.cells (List.length l) (bQ (bI F w e) e.cells l) v):
 ∃news,Seq P e.cells v (List.length l) news w/\bQ (bI F w e) e.cells l (cl news) 0:=by
 obtain⟨_,_,⟨e0,a,c,rfl,_⟩|⟨b,o,c,cs,T',fz,rfl,_,_,h3,h4,h5⟩⟩:=H
 ·obtain rfl:l=[]:=aeh e0;exact⟨[],Seq.nil,trivial⟩
 ·refine⟨_,Seq.Hs h3 h4 (lS (fh e) l _ _ h5),?_⟩;rw[gT];exact bQ.dP (λx _ _ _ _=>bI.dP e x) l (λj hj=>by rw[adI];exact qt h4 hj) h5
theorem oY (s:ByteArray) (i:Nat) (h:i<s.size):(byteCells s)[i]? =some (.int .u8 (((bZ s).getD i 0:Nat):Int)):=by
 have:i<s.data.toList.length:=by rw[Array.length_toList];exact h
 rw[po s i h];simp only[byteCells,List.getElem?_map,ae2 this,Option.map_some];rfl
theorem yu {F:Nat->Prop} {w:World} (s:ByteArray):bQ (bI F w (.u 4)) 1 (bZ s) (cl (byteCells s)) 0:=by
 refine bQ.of λi x hx=> ?_
 have hi:i<s.size:=by rw[<-dv];exact(aee.1 hx).1
 have e:(bZ s).getD i 0=x:=by rw[adG,hx];rfl
 refine⟨?_,by decide,by decide,Iu x (List.mem_of_getElem? hx)⟩;rw[adI,Nat.mul_one];unfold cl;rw[adG,oY s i hi,e];rfl
section
variable {T:CT} {s:TS} {B:Bs} {X:Fx}
theorem xy {P:Program} {G:Nat->Prop} (hG:∀b,G b->B.F b) {H:List TE} {a:TV} {e:Ty} {l:(Ty.sl e).T} {u:Value} (h:toSeq H a e=some l) (I:bw X B) (he:1<=e.cells) (hp:e.pos=true) (hS:i9 H B (ids a)) (hi:∀j∈ids a,∀b s,B.b j=some (b,s)->¬G b) (ha:Rv B a u):
 ∃news,Seq P e.cells u (List.length l) news B.w/\bQ (bI G B.w e) e.cells l (cl news) 0:=by
 unfold toSeq at h;split at h
 ·rename_i x;obtain⟨st,rfl,rfl,h2⟩:=PV ha;obtain⟨e1,e2⟩:=e_ h;cases e1;subst e2;refine⟨byteCells st,?_,yu st⟩;show Seq P 1 (.string st) (List.length (bZ st)) _ _;rw[dv];exact Seq.ofString st
 ·have sa:=(du (.sl e) a h).same hS;have hp':(Ty.sl e).pos=true:=by
   show(Nat.ble 1 e.cells&&e.pos)=true;rw[hp,Bool.and_true];exact Nat.ble_eq_true_of_le he
  obtain⟨h1,h2⟩:=sa.whole I hG hp' hi ha;obtain⟨h1,_⟩:=h1;rw[pv h1] at h2;exact vj.seq h2
theorem Cx {P:Program} {e:TypeId} (h:RN P e=true):P.underlying e=some (.int .u8)/\cg P e=cg P e:=by
 refine⟨?_,rfl⟩;unfold RN at h;cases hu:bU P e with
 |none=>rw[hu] at h;exact Bool.noConfusion h
 |some d=>
  rw[hu] at h;cases d with
  |int q=>cases q<;>first|exact(bp hu).1|exact Bool.noConfusion h
  |_=>exact Bool.noConfusion h
def strOf (l:List Nat):ByteArray:=⟨(l.map UInt8.ofNat).toArray⟩
theorem tR {l:List Nat} (h:∀x∈l,x<256):bZ (strOf l)=l:=by
 unfold bZ strOf;rw[List.map_map]
 conv=>rhs;rw[<-List.map_id l]
 apply List.map_congr_left;intro x hx;have:=h x hx;show(UInt8.ofNat x).toNat=x;rw[UInt8.toNat_ofNat'];omega
theorem Pu {F:Nat->Prop} {w:World} {l:List Nat} {news:List Value} (hl:news.length=l.length) (h:bQ (bI F w (.u 4)) 1 l (cl news) 0):news=(l.map λx:Nat=>(x:Int)).map (Value.int IntKind.u8)/\∀x∈l,x<256:=by
 have key:∀(i x:Nat),l[i]? =some x->news[i]? =some (Value.int IntKind.u8 (x:Int))/\x<256:=λi x hx=>by
  obtain⟨h1,_,_,h2⟩:=bQ.nth h hx;rw[adI,Nat.mul_one] at h1;have hi:i<news.length:=by rw[hl];exact(aee.1 hx).1
  refine⟨?_,h2⟩;unfold cl at h1;rw[adG,ae2 hi] at h1;rw[ae2 hi];exact congrArg some h1
 refine⟨List.ext_getElem? λi=> ?_,λx hx=> ?_⟩
 ·by_cases hi:i<l.length
  ·rw[(key i l[i] (ae2 hi)).1];simp[hi]
  ·rw[List.getElem?_eq_none ade,List.getElem?_eq_none (by simp;omega)]
 ·obtain⟨i,hi,rfl⟩:=List.mem_iff_getElem.1 hx;exact(key i _ (ae2 hi)).2
def lp (P:Program) (B:Bs) (run:Sem Value) (C:Bs->Prop) (tb:TB) (mk:Nat->TV):Prop:=∃r p w',run.run P B.w= .ok r w'/\(∀b,b<B.w.heap.size->w'.heap[b]? =B.w.heap[b]?)/\B.w.heap.size<=w'.heap.size/\dY B.w w'/\(∀b s,p=some (b,s)->B.w.heap.size<=b)/\
 (∀B' st,B'.w=w'->C B'->bo B B'->lg B' ⟨st,tb⟩ p)/\∀B' j,(B'.e j).st≠7->tb.hZ (B'.e j).b->B'.b j=p->Rv B' (mk j) r
theorem og {P:Program} {run:Sem Value} {e:Ty} {l:(Ty.sl e).T} {cap:Nat} {cs:Array Value} {ty:TypeId} {fz:Nat×Nat} {w':World} (hl:List.length l<dU) (he:1<=e.cells) (hc:List.length l<=cap) (hs:cap*e.cells<=cs.size) (hw:UH cs fz)
 (hr:run.run P B.w= .ok (.slice (some ⟨B.w.heap.size,0,none⟩) (List.length l) cap) w') (h1:w'.heap=B.w.heap.push (.cells cs ty fz)) (PO:dY B.w w') (h:bQ (bI B.F B.w e) e.cells l (fw cs) 0):lp P B run (λ_=>True) (.row e l) .r:=by
 have mK:w'.heap.size=B.w.heap.size+1:=by rw[h1,Array.size_push]
 refine⟨_,some (B.w.heap.size,cs.size),w',hr,λb hb=>by rw[h1,Array.getElem?_push,adi],ade,PO,λb s e=>by cases e;exact adw _,λB' st hB _ L=> ?_,λB' j h7 hk hp=> ?_⟩
 ·intro _;refine⟨hl,he, .inr ⟨_,cs,ty,fz,rfl,?_,λ_=>hw,aem (ae4 _ hc) hs,bQ.mono (bI.mono L.k e) l _ _ h⟩⟩;rw[hB,h1,Array.getElem?_push,adp rfl]
 ·have:∃l':(Ty.sl e).T,(B'.e j).b= .row e l'/\List.length l'=List.length l:=by
   revert hk;cases(B'.e j).b with
   |row e' l'=>rintro⟨k1,k2⟩;subst k1;exact⟨l',rfl,k2.symm⟩
   |_=>exactλk=>k.elim
  obtain⟨l',k1,k2⟩:=this;refine mkR h7 k1 ?_;rw[hp,k2];exact⟨hl, .inl ⟨cap,by rw[aen],hc,by rw[aen,adI];exact hs⟩⟩
theorem Du {t d:TypeId} {a tv:TV} {s':TS} {u:Value} (h:kM T s t d a dA=some (tv,s')) (I:bw X B) (hS:(∃e,bU T.P t=some (.slice e))->i9 s.hp B (ids a)) (ha:Rv B a u):
 (s'=s/\∃r,(convert t d u).run T.P B.w= .ok r B.w/\Rv B tv r)\/∃tb,s'=s.new tb/\tv= .r s.hp.length/\(∃e,bU T.P t=some .string/\bU T.P d=some (.slice e))/\lp T.P B (convert t d u) (λ_=>True) tb .r:=by
 unfold kM at h;split at h
 ·rename_i kk kk' ht hd;have run:∀{n:Int} {k:IntKind},(convert t d (.int k n)).run T.P B.w= .ok (.int kk' (kk'.wrap n)) B.w:=λ{n k}=>by
   simp[convert,run_underlying (bp ht).1,run_underlying (bp hd).1,Conv.intToInt]
  have fin:∀{x:TV} {n:Int} {k:IntKind} {j:Nat},kc kk'=j->u= .int k n->(tv,s')=(x,s)->Rv B x (.int (kd j) ((kd j).wrap n))->s'=s/\∃r,(convert t d u).run T.P B.w= .ok r B.w/\Rv B tv r:=λ{x n k j} hj hu he hr=>by
   cases he;subst hu;refine⟨rfl,_,run,?_⟩;rw[<-hj,CC] at hr;exact hr
  refine .inl ?_;split at h
  ·rename_i x;obtain⟨e,_,rx⟩:=Kd ha;cases hb:Nat.beq (kc kk') 3 with
   |true=>
    rw[hb] at h;have hb:=adu hb;refine fin hb e (Option.some.inj h).symm ?_;have:=lN (B:=B) (k:=3) (by decide) (x:Int)
    rwa [Pw (by decide) rx] at this
   |false=>
    rw[hb] at h
    replace h:=aQ h;obtain⟨h4,h⟩:=h
    have h4:=adv h4;refine fin rfl e (Option.some.inj h).symm ?_;have iJ:=Hf kk';rw[FK h4 iJ];have:(x:Int) %(fo (kc kk'):Int)=((mM (kc kk') x:Nat):Int):=by
     unfold mM;rw[Int.toNat_of_nonneg (Int.emod_nonneg _ (by have:=pO (k:=kc kk');omega))]
    rw[this,KF];exact PT h4 iJ (XW _ _)
  ·rename_i k x;obtain⟨e,g4,g8,rx⟩:=Sl ha;cases hb:Nat.beq (kc kk') 3 with
   |true=>
    rw[hb] at h;have hb:=adu hb;refine fin hb e (Option.some.inj h).symm ?_;rw[E1];exact lN (k:=3) (by decide) _
   |false=>
    rw[hb] at h
    replace h:=aQ h;obtain⟨h4,h⟩:=h
    have h4:=adv h4;have iJ:=Hf kk';cases uc:Nat.beq (kc kk') k with
    |true=>
     rw[uc] at h;have uc:=adu uc;refine fin uc e (Option.some.inj h).symm (z9 g4 g8 rx)
    |false=>
     rw[uc] at h;exact fin rfl e (Option.some.inj h).symm (by rw[pt];exact zd h4 iJ _)
  ·cases h
 ·rename_i ht hd;split at h
  ·cases h;obtain⟨st,rfl,rfl,h2⟩:=PV ha;exact .inl ⟨rfl,_,by simp[convert,run_underlying (bp ht).1,run_underlying (bp hd).1],ha⟩
  ·cases h
 ·rename_i e ht hd
  replace h:=aQ h;obtain⟨h8,h⟩:=h
  split at h
  ·rename_i x;have hc:¬List.length x>1073741824/\some (TV.r s.hp.length,s.new (.row (.u 4) x))=some (tv,s'):=by
    have h:(if List.length x<=1073741824 then some (TV.r s.hp.length,s.new (.row (.u 4) x)) else none)=some (tv,s'):=(dZ _ _).symm.trans h;split at h
    ·rename_i h1;exact⟨ade,h⟩
    ·cases h
   obtain⟨hc,h⟩:=hc;cases h;obtain⟨st,rfl,rfl,h2⟩:=PV ha;have hge:=grownCap_ge B.w st.size 0 e;have mK:(bytesRow st (grownCap B.w st.size 0 e)).size=grownCap B.w st.size 0 e:=by
    have h2:st.data.size=st.size:=rfl;simp only[bytesRow,Array.size_append,Array.size_map,Array.size_replicate,h2];omega
   refine .inr ⟨_,rfl,rfl,⟨e,ht,hd⟩,?_⟩;refine og (e:= .u 4) (l:=bZ st) (cap:=grownCap B.w st.size 0 e) h2 (by decide) (by rw[dv];exact hge) (by rw[mK];show _*1<=_;omega) (.inr ?_) (by rw[dv];exact run_bytes_of_string B.w t d e st (bp ht).1 (bp hd).1 (Cx h8).1) (w':=B.w.drew.alloc (.cells (bytesRow st (grownCap B.w st.size 0 e)) e ((bytesRow st (grownCap B.w st.size 0 e)).size,(bytesRow st (grownCap B.w st.size 0 e)).size+1))) rfl ⟨rfl,rfl⟩ ?_
   ·rw[mK];exact adw _
   ·refine bQ.dP (λx _ _ _ _=>bI.dP (.u 4) x) _ (λj hj=> ?_) (yu st);have hj:j<st.size:=by
     have hj:j<(bZ st).length*1:=hj;rw[dv] at hj;omega
    have K5:j<st.data.size:=hj;rw[adI];unfold fw cl;rw[adD,adG,oY st j hj];unfold bytesRow;rw[Array.getElem?_append,adp (by rw[Array.size_map];exact K5),Array.getElem?_map,adX K5,po st j hj];rfl
  ·cases h
 ·rename_i e ht hd
  replace h:=aQ h;obtain⟨h8,h⟩:=h
  split at h
  ·rename_i x hx;cases h;refine .inl ⟨rfl,?_⟩;have sa:=(du (.sl (.u 4)) a hx).same (hS ⟨e,ht⟩);obtain⟨h1,h2⟩:=sa.whole I (G:=λ_=>False) (λ_ h=>h.elim) rfl (λ_ _ _ _ _ h=>h) ha;obtain⟨h1,_⟩:=h1;rw[pv h1] at h2;have hlen:List.length x<dU:=h2.1;obtain⟨news,q1,q2⟩:=vj.seq (P:=T.P) h2;obtain⟨k1,k2⟩:=Pu (by rw[q1.size];show List.length x*1=_;omega) q2;refine⟨.string (strOf x),?_,?_⟩
   ·obtain⟨_,ad,c,rfl⟩:=P7 h2;rw[run_convert_bytes_string B.w t d e ad _ c (bp ht).1 (Cx h8).1 (bp hd).1];cases ad with
    |none=>
     have:x=[]:=by
      obtain⟨_,_,⟨e0,_⟩|⟨_,_,_,_,_,_,e0,_⟩⟩:=h2
      ·exact aeh e0
      ·cases e0
     subst this;simp[Conv.bytesToString];rfl
    |some ad=>
     have a0k:(loadCells ad (List.length x)).run T.P B.w= .ok ((List.map (λx:Nat=>(x:Int)) x).map (Value.int .u8)).toArray B.w:=by
      have:=q1.cells B.w rfl (List.length x) (adw _);rw[List.take_of_length_le (by rw[q1.size];exact adw _),k1] at this;have e1:(Ty.u 4).cells=1:=rfl;simpa only[Builtin.firstCells,e1,Nat.mul_one] using this
     rw[run_bytesToString B.w ad _ c _ a0k];congr 2;have hto:List.map (λx:Nat=>(x:Int)) x=(List.map UInt8.ofNat x).map (λb=>(b.toNat:Int)):=by
      rw[List.map_map];apply List.map_congr_left;intro y hy;have:=k2 y hy;show(y:Int)=((UInt8.ofNat y).toNat:Int);rw[UInt8.toNat_ofNat'];omega
     rw[hto,foldl_push_byteCells];have Ru:ByteArray.empty.data= #[]:=rfl;rw[Ru,Array.empty_append];rfl
   ·have:=mkS (B:=B) (strOf x) (by rw[<-dv,tR k2];exact hlen)
    rwa [tR k2] at this
  ·cases h
 ·cases h
end
end
noncomputable section
theorem gV {X:Fx} {B:Bs} (I:bw X B) {j b s:Nat} (hs:(B.e j).st=0) (hb:B.b j=some (b,s)):¬B.F b:=by
 rintro(h|⟨i,s',h1,h2⟩)
 ·rw[I.F0] at h;exact I.fr j b s ade hb h
 ·have:=I.inj i j b s' s h1 ade h2 hb;subst this;unfold Bs.own at h1;omega
theorem fL.ids {H:List TE} {B:Bs} (F:fL H B.H) {l:List Nat} (h:∀j∈l,(nth .bu H j).st<=2):i9 H B l:=λj hj=>⟨by
 show(nth .bu B.H j).st<=2;have:=h j hj;rcases F.st j with k|⟨_,k⟩<;>omega,F.b j⟩
theorem ly.vK {H:List TE} {B:Bs} (F:fL H B.H) {t:Ty} {x:TV} {y:t.T} (h:ly H t x y):ly B.H t x y:=h.same (F.ids h.live)
theorem uE {a d:Ty} {c:TV} (h:fit (.pr a d) c=true):∃y z,jQ c= .pr y z/\fit a y=true/\fit d z=true/\eU 0 c=y/\(∀k,eU (k+1) c=eU k z)/\(∀j,j∈ids y\/j∈ids z↔j∈ids c)/\∀(B:Bs) f o,Rp B c f o->Rp B y f o/\Rp B z f (o+a.cells):=by
 rcases kW h with⟨v,rfl⟩|⟨y,z,rfl,h1,h2⟩
 ·exact⟨_,_,rfl,dk _ _,dk _ _,rfl,λ_=>rfl,λj=>(by constructor<;>intro h<;>(try rcases h with h|h)<;>cases h),λB f o hr=>hr⟩
 ·exact⟨y,z,rfl,h1,h2,rfl,λ_=>rfl,λj=>adC.symm,λB f o hr=>⟨hr.1,by have:=hr.2;rw[(cV a y h1).1] at this;exact this⟩⟩
def YS (t y:Ty) (p:Nat) (c c0 c1 c':TV):Prop:=fit y c1=true->fit t c'=true/\(∀j∈ids c',j∈ids c\/j∈ids c1)/\∀(B:Bs) (f f':Nat->Value) (o:Nat),Rp B c f o->(∀i,i<t.cells->(i<p\/p+y.cells<=i)->f' (o+i)=f (o+i))->Rp B c1 f' (o+p)->Rp B c' f' o
theorem pX {F:TV->Option TV}:∀(k:Nat) (t:Ty) (c:TV) {y:Ty} {p:Nat} {c':TV},fit t c=true->Ty.eU k t=some (y,p)->iy F k c=some c'->∃c1,F (eU k c)=some c1/\YS t y p c (eU k c) c1 c'
 |0, .pr a d,c,y,p,c',h,e,hs=>by
  have e:some (a,0)=some (y,p):=e;cases e;obtain⟨u,z,g1,g2,g3,g4,g5,g6,g7⟩:=uE h;have hs:(match jQ c with| .pr a d=>(match F a with|some a=>some (TV.pr a d)|none=>none)|_=>none)=some c':=hs;rw[g1] at hs;have hs:(match F u with|some a=>some (TV.pr a z)|none=>none)=some c':=hs;cases hF:F u with
  |none=>rw[hF] at hs;cases hs
  |some c1=>
   rw[hF] at hs;cases hs;rw[g4];refine⟨c1,hF,λhf=>⟨?_,λj hj=> ?_,λB f f' o hr h1 h2=> ?_⟩⟩
   ·show(fit a c1&&fit d z)=true;rw[adr];exact⟨hf,g3⟩
   ·rcases adC.1 hj with hj|hj
    ·exact .inr hj
    ·exact .inl ((g6 j).1 (.inr hj))
   ·refine⟨h2,?_⟩;rw[(cV a c1 hf).1];refine Rp.dP z (λj hj=> ?_) (g7 B f o hr).2;rw[(cV d z g3).1] at hj;have:=h1 (a.cells+j) (by show _<a.cells+d.cells;omega) (.inr ade);rw[adV];exact this
 |k+1, .pr a d,c,y,p,c',h,e,hs=>by
  have e:(match Ty.eU k d with|some (t,o)=>some (t,a.cells+o)|none=>none)=some (y,p):=e;split at e
  ·rename_i t q hd;cases e;obtain⟨u,z,g1,g2,g3,g4,g5,g6,g7⟩:=uE h;have hs:(match jQ c with| .pr a d=>(match iy F k d with|some d=>some (TV.pr a d)|none=>none)|_=>none)=some c':=hs;rw[g1] at hs;have hs:(match iy F k z with|some d=>some (TV.pr u d)|none=>none)=some c':=hs;cases hF:iy F k z with
   |none=>rw[hF] at hs;cases hs
   |some z'=>
    rw[hF] at hs;cases hs;obtain⟨c1,k1,k2⟩:=pX k d z g3 hd hF;rw[g5];refine⟨c1,k1,λhf=> ?_⟩;obtain⟨m1,m2,m3⟩:=k2 hf;refine⟨?_,λj hj=> ?_,λB f f' o hr h1 h2=> ?_⟩
    ·show(fit a u&&fit d z')=true;rw[adr];exact⟨g2,m1⟩
    ·rcases adC.1 hj with hj|hj
     ·exact .inl ((g6 j).1 (.inl hj))
     ·rcases m2 j hj with hj|hj
      ·exact .inl ((g6 j).1 (.inr hj))
      ·exact .inr hj
    ·obtain⟨r1,r2⟩:=g7 B f o hr;refine⟨Rp.dP u (λj hj=> ?_) r1,?_⟩
     ·rw[(cV a u g2).1] at hj;exact h1 j (by show _<a.cells+d.cells;omega) (.inl ade)
     ·rw[(cV a u g2).1];refine m3 B f f' _ r2 (λi hi hi'=> ?_) (by rw[adV];exact h2);have:=h1 (a.cells+i) (by show _<a.cells+d.cells;omega) ade;rw[adV];exact this
  ·cases e
 |0, .i _,_,_,_,_,_,e,_|0, .u _,_,_,_,_,_,e,_|0, .b,_,_,_,_,_,e,_|0, .s,_,_,_,_,_,e,_|0, .sl _,_,_,_,_,_,e,_|0, .un,_,_,_,_,_,e,_|0, .ar _ _,_,_,_,_,_,e,_|0, .gv,_,_,_,_,_,e,_=>by cases e
 |_+1, .i _,_,_,_,_,_,e,_|_+1, .u _,_,_,_,_,_,e,_|_+1, .b,_,_,_,_,_,e,_|_+1, .s,_,_,_,_,_,e,_|_+1, .sl _,_,_,_,_,_,e,_|_+1, .un,_,_,_,_,_,e,_|_+1, .ar _ _,_,_,_,_,_,e,_|_+1, .gv,_,_,_,_,_,e,_=>by cases e
theorem gv5 {c:TV} (h:fit .gv c=true):∃a b d e f,jQ c= .pr a (.pr b (.pr d (.pr e (.pr f .un))))/\fit (.u 4) a=true/\fit (.i 3) b=true/\fit .s d=true/\fit (.sl .gv) e=true/\fit .b f=true/\(∀j,j∈ids (jQ c)->j∈ids c)/\(∀k,fx k c=eU k (jQ c))/\∀(B:Bs) f o,Rp B c f o->Rp B (jQ c) f o:=by
 cases c with
 |v σ v=>
  have e:=gU h;subst e;refine⟨_,_,_,_,_,rfl,dk _ _,dk _ _,dk _ _,dk _ _,dk _ _,λj hj=>(by cases hj),λk=> ?_,λB f o hr=> ?_⟩
  ·show eU k (.v lH (vZ v))=_;rcases k with _|_|_|_|_|k<;>first|rfl|skip
   show eU k (.v .un _)=eU k .un;cases k<;>rfl
  ·have:=(uT _ _ v f o).1 hr;obtain⟨h1,h2,h3,h4,h5,_⟩:=this;exact⟨h1,h2,h3,h4,h5,trivial⟩
 |pr a b=>
  unfold fit at h;split at h
  all_goals first|contradiction|skip
  rename_i heq;cases heq;simp only[adr] at h;exact⟨_,_,_,_,_,rfl,h.1,h.2.1,h.2.2.1,h.2.2.2.1,h.2.2.2.2,λj hj=>hj,λk=>rfl,λB f o hr=>hr⟩
 |_=>cases h
theorem vR {a b d e f:TV}:fit lH (.pr a (.pr b (.pr d (.pr e (.pr f .un)))))=(fit (.u 4) a&&(fit (.i 3) b&&(fit .s d&&(fit (.sl .gv) e&&(fit .b f&&true))))):=rfl
theorem Ar {a b d e f:TV}:fit .gv (.pr a (.pr b (.pr d (.pr e (.pr f .un)))))=(fit (.u 4) a&&(fit (.i 3) b&&(fit .s d&&(fit (.sl .gv) e&&fit .b f)))):=rfl
theorem zF {F:TV->Option TV} {k:Nat} {t:Ty} {c:TV} {y:Ty} {p:Nat} {c':TV} (h:fit t c=true) (e:t.o_ k=some (y,p)) (hs:iy F k c=some c'):∃c1,F (fx k c)=some c1/\YS t y p c (fx k c) c1 c':=by
 by_cases hg:t= .gv
 ·subst hg;have e:Ty.eU k lH=some (y,p):=e;obtain⟨a,b,d,x,f,g1,f1,f2,f3,f4,f5,g2,g3,g4⟩:=gv5 h;have hs:iy F k (jQ c)=some c':=by
   have e2:jQ (jQ c)=jQ c:=by rw[g1];rfl
   cases k with
   |zero=>
    have e3:∀c,iy F 0 c=(match jQ c with| .pr a d=>(match F a with|some a=>some (TV.pr a d)|none=>none)|_=>none):=λc=>by cases c<;>rfl
    rw[e3] at hs⊢;rw[e2];exact hs
   |succ k=>
    have e3:∀c,iy F (k+1) c=(match jQ c with| .pr a d=>(match iy F k d with|some d=>some (TV.pr a d)|none=>none)|_=>none):=λc=>by cases c<;>rfl
    rw[e3] at hs⊢;rw[e2];exact hs
  have hf:fit lH (jQ c)=true:=by
   rw[g1,vR];simp only[adr];exact⟨f1,f2,f3,f4,f5,trivial⟩
  obtain⟨c1,k1,k2⟩:=pX k lH (jQ c) hf e hs;rw[g3];refine⟨c1,k1,λhc=> ?_⟩;obtain⟨m1,m2,m3⟩:=k2 hc;refine⟨?_,λj hj=> ?_,λB f f' o hr h1 h2=>m3 B f f' o (g4 B f o hr) h1 h2⟩
  ·rw[g1] at hs;have sh:∃a b d x f,c'= .pr a (.pr b (.pr d (.pr x (.pr f .un)))):=by
    rcases k with _|_|_|_|_|k
    ·have hs:(match F a with|some a=>some (TV.pr a (.pr b (.pr d (.pr x (.pr f .un)))))|none=>none)=some c':=hs;cases hF:F a with
     |none=>rw[hF] at hs;cases hs
     |some z=>rw[hF] at hs;cases hs;exact⟨_,_,_,_,_,rfl⟩
    ·cases hF:F b with
     |none=>
      have hs:(match(match F b with|some a=>some (TV.pr a (.pr d (.pr x (.pr f .un))))|none=>none) with|some d=>some (TV.pr a d)|none=>none)=some c':=hs;rw[hF] at hs;cases hs
     |some z=>
      have hs:(match(match F b with|some a=>some (TV.pr a (.pr d (.pr x (.pr f .un))))|none=>none) with|some d=>some (TV.pr a d)|none=>none)=some c':=hs;rw[hF] at hs;cases hs;exact⟨_,_,_,_,_,rfl⟩
    ·have hs:(match(match(match F d with|some a=>some (TV.pr a (.pr x (.pr f .un)))|none=>none) with|some d=>some (TV.pr b d)|none=>none) with|some d=>some (TV.pr a d)|none=>none)=some c':=hs;cases hF:F d with
     |none=>rw[hF] at hs;cases hs
     |some z=>rw[hF] at hs;cases hs;exact⟨_,_,_,_,_,rfl⟩
    ·have hs:(match(match(match(match F x with|some a=>some (TV.pr a (.pr f .un))|none=>none) with|some x=>some (TV.pr d x)|none=>none) with|some d=>some (TV.pr b d)|none=>none) with|some d=>some (TV.pr a d)|none=>none)=some c':=hs;cases hF:F x with
     |none=>rw[hF] at hs;cases hs
     |some z=>rw[hF] at hs;cases hs;exact⟨_,_,_,_,_,rfl⟩
    ·have hs:(match(match(match(match(match F f with|some a=>some (TV.pr a .un)|none=>none) with|some a=>some (TV.pr x a)|none=>none) with|some x=>some (TV.pr d x)|none=>none) with|some d=>some (TV.pr b d)|none=>none) with|some d=>some (TV.pr a d)|none=>none)=some c':=hs;cases hF:F f with
     |none=>rw[hF] at hs;cases hs
     |some z=>rw[hF] at hs;cases hs;exact⟨_,_,_,_,_,rfl⟩
    ·exfalso;have:Ty.eU (k+1+1+1+1+1) lH=none:=by cases k<;>rfl
     rw[this] at e;cases e
   obtain⟨a',b',d',x',f',rfl⟩:=sh;rw[vR] at m1;rw[Ar];simp only[adr] at m1⊢;exact⟨m1.1,m1.2.1,m1.2.2.1,m1.2.2.2.1,m1.2.2.2.2.1⟩
  ·rcases m2 j hj with hj|hj
   ·exact .inl (g2 j hj)
   ·exact .inr hj
 ·have e:Ty.eU k t=some (y,p):=by
   cases t<;>first|exact e|exact absurd rfl hg
  have e2:fx k c=eU k c:=by
   cases c with
   |v σ v=>
    have e:=gU h;subst e;cases σ<;>first|rfl|exact absurd rfl hg
   |_=>rfl
  rw[e2];exact pX k t c h e hs
theorem P2 {e:Ty} {l:(Ty.sl e).T} {n i:Nat} {x:e.T}:(ae (e:=e) l n x:List e.T)[i]? =if i=n/\n<List.length l then some x else(l:List e.T)[i]? :=by
 show(List.set l n x)[i]? =_;rw[List.getElem?_set]
 by_cases h:n=i
 ·subst h
  by_cases h2:n<List.length l
  ·rw[adp rfl,adp h2,adp ⟨rfl,h2⟩]
  ·rw[adp rfl,adq h2,adq (λh=>h2 h.2),List.getElem?_eq_none ade]
 ·rw[adq h,adq (λh2=>h h2.1.symm)]
theorem x6 {F:Nat->Prop} {hp:World} {e:Ty} {l:(Ty.sl e).T} {n:Nat} {x:e.T} {f f':Nat->Value} {o:Nat} (h:bQ (bI F hp e) e.cells l f o) (h1:∀i,i<List.length l*e.cells->(i<n*e.cells\/n*e.cells+e.cells<=i)->f' (o+i)=f (o+i)) (h2:bI F hp e x f' (o+n*e.cells)):
 bQ (bI F hp e) e.cells (ae (e:=e) l n x) f' o:=by
 refine bQ.of λi y hy=> ?_
 rw[P2] at hy
 by_cases hi:i=n/\n<List.length l
 ·rw[adp hi] at hy;cases hy;rw[hi.1];exact h2
 ·rw[adq hi] at hy;have iJ:i<List.length l:=by
   apply aeg;intro h';rw[List.getElem?_eq_none h'] at hy;cases hy
  have qd:i≠n:=λe=>hi ⟨e,by rw[<-e];exact iJ⟩
  refine bI.dP e y (λj hj=> ?_) (bQ.nth h hy);have k1:(i+1)*e.cells<=List.length l*e.cells:=ae4 _ iJ;rw[aei,aeo] at k1;have:=h1 (i*e.cells+j) ade (by
   rcases Nat.lt_or_gt_of_ne qd with h3|h3
   ·have k2:(i+1)*e.cells<=n*e.cells:=ae4 _ h3;rw[aei,aeo] at k2;exact .inl ade
   ·have k2:(n+1)*e.cells<=i*e.cells:=ae4 _ h3;rw[aei,aeo] at k2;exact .inr ade)
  rw[adV];exact this
theorem iU {X:Fx} {B:Bs} (I:bw X B) {H0:List TE} {x:TV}:∀(w:List vi) (t:Ty) (c:TV) {u:Ty} {q:Nat} {c':TV},(Na w=false->fL H0 B.H/\∀j∈ids x,(B.e j).st=0)->fit t c=true->t.iH w=some u->t.off w=some q->fit u x=true->setPath H0 x w c=some c'->
 fit t c'=true/\q+u.cells<=t.cells/\(∀j∈ids c',j∈ids c\/j∈ids x)/\∀(f f':Nat->Value) (o:Nat),Rp B c f o->(∀i,i<t.cells->(i<q\/q+u.cells<=i)->f' (o+i)=f (o+i))->Rp B x f' (o+q)->Rp B c' f' o
 |[],t,c,u,q,c',hF,h,e1,e2,hx,hs=>by
  have e1:some t=some u:=e1;have e2:some 0=some q:=e2;have hs:some x=some c':=hs;cases e1;cases e2;cases hs;exact⟨hx,ade,λj hj=> .inr hj,λf f' o _ _ h2=>h2⟩
 | .o_ k::w,t,c,u,q,c',hF,h,e1,e2,hx,hs=>by
   have e1:(match t.o_ k with|some (x,_)=>Ty.iH w x|none=>none)=some u:=e1;have e2:(match t.o_ k with|some (y,o)=>(match Ty.off w y with|some q=>some (o+q)|none=>none)|none=>none)=some q:=e2;have hs:iy (setPath H0 x w) k c=some c':=hs;cases hk:t.o_ k with
   |none=>rw[hk] at e1;cases e1
   |some yo=>
    obtain⟨y,p⟩:=yo;rw[hk] at e1 e2;have e1:Ty.iH w y=some u:=e1;have e2:(match Ty.off w y with|some q=>some (p+q)|none=>none)=some q:=e2;cases hq:Ty.off w y with
    |none=>rw[hq] at e2;cases e2
    |some q'=>
     rw[hq] at e2;cases e2;obtain⟨c1,k1,k2⟩:=zF h hk hs;obtain⟨g1,g2,g3⟩:=vS (B:=B) h hk;obtain⟨m1,m2,m3,m4⟩:=iU I w y (fx k c) hF g1 e1 hq hx k1;obtain⟨r1,r2,r3⟩:=k2 m1;have idsF:∀j,j∈ids (fx k c)->j∈ids c:=λj hj=>ids_fld h hk j hj
     refine⟨r1,ade,λj hj=> ?_,λf f' o hr h1 h2=> ?_⟩
     ·rcases r2 j hj with hj|hj
      ·exact .inl hj
      ·rcases m3 j hj with hj|hj
       ·exact .inl (idsF j hj)
       ·exact .inr hj
     ·refine r3 B f f' o hr (λi hi hi'=>h1 i hi ade) ?_;refine m4 f f' (o+p) (g3 f o hr) (λi hi hi'=> ?_) (by rw[adV];exact h2);have:=h1 (p+i) ade ade;rw[adV];exact this
 | .rU n::w,t,c,u,q,c',hF,h,e1,e2,hx,hs=>by
   cases t with
   |ar m e=>
    obtain⟨l,rfl⟩:=EK h;have e1:Ty.iH w e=some u:=e1;have e2:(if n<m then(match Ty.off w e with|some q=>some (n*e.cells+q)|none=>none) else none)=some q:=e2;obtain⟨hF1,hF2⟩:=hF rfl;split at e2
    ·rename_i hn;cases hq:Ty.off w e with
     |none=>rw[hq] at e2;cases e2
     |some q'=>
      rw[hq] at e2;cases e2;have hs:(match setPath H0 x w (.v e (a8 (e:=e) l n)) with|some y=>(bif e.pos then(match tU H0 y e with|some y=>some (TV.v (.ar m e) (ae (e:=e) l n y))|none=>none) else none)|none=>none)=some c':=hs;cases hy:setPath H0 x w (.v e (a8 (e:=e) l n)) with
      |none=>rw[hy] at hs;cases hs
      |some y=>
       rw[hy] at hs;have hs:(bif e.pos then(match tU H0 y e with|some y=>some (TV.v (.ar m e) (ae (e:=e) l n y))|none=>none) else none)=some c':=hs;cases hp:e.pos with
       |false=>rw[hp] at hs;cases hs
       |true=>
        rw[hp] at hs;have hs:(match tU H0 y e with|some y=>some (TV.v (.ar m e) (ae (e:=e) l n y))|none=>none)=some c':=hs;cases hv:tU H0 y e with
        |none=>rw[hv] at hs;cases hs
        |some yv=>
         rw[hv] at hs;cases hs;obtain⟨m1,m2,m3,m4⟩:=iU I w e (.v e (a8 (e:=e) l n)) (λ_=>⟨hF1,hF2⟩) (dk _ _) e1 hq hx hy;have k5:(n+1)*e.cells<=m*e.cells:=ae4 _ hn;rw[aei,aeo] at k5;refine⟨dk _ _,?_,λj hj=>(by cases hj),λf f' o hr h1 h2=> ?_⟩
         ·show n*e.cells+q'+u.cells<=m*e.cells;rw[adV];exact aem (Nat.add_le_add_left m2 _) k5
         ·obtain⟨r1,r2⟩:=hr;have hl:n<List.length l:=by rw[r1];exact hn
          have hr:bI B.F B.w e (a8 (e:=e) l n) f (o+n*e.cells):=bQ.nth (P:=bI B.F B.w e) r2 (mu hl);have h3:Rp B y f' (o+n*e.cells):=by
           refine m4 f f' _ hr (λi hi hi'=> ?_) (by rw[adV];exact h2);have:=h1 (n*e.cells+i) (aef (Nat.add_lt_add_left hi _) k5) ade;rw[adV];exact this
          have EP:=(du e y hv).vK hF1;have h4:bI B.F B.w e yv f' (o+n*e.cells):=EP.rep I (G:=B.F) (λb hb=>hb) hp (λj hj b s hb=>by
           rcases m3 j hj with hj|hj
           ·cases hj
           ·exact gV I (hF2 j hj) hb) h3
          refine⟨?_,x6 r2 (λi hi hi'=> ?_) h4⟩
          ·show List.length (List.set l n yv)=m;rw[List.length_set];exact r1
          ·rw[r1] at hi;exact h1 i hi ade
    ·cases e2
   |_=>cases e1
where
 ids_fldP:∀(k:Nat) (t:Ty) (c:TV) {y:Ty} {p:Nat},fit t c=true->Ty.eU k t=some (y,p)->∀j,j∈ids (eU k c)->j∈ids c
  |0, .pr a d,c,y,p,h,e,j,hj=>by
   obtain⟨u,z,g1,g2,g3,g4,g5,g6,g7⟩:=uE h;rw[g4] at hj;exact(g6 j).1 (.inl hj)
  |k+1, .pr a d,c,y,p,h,e,j,hj=>by
   have e:(match Ty.eU k d with|some (t,o)=>some (t,a.cells+o)|none=>none)=some (y,p):=e;split at e
   ·rename_i t q hd;obtain⟨u,z,g1,g2,g3,g4,g5,g6,g7⟩:=uE h;rw[g5] at hj;exact(g6 j).1 (.inr (ids_fldP k d z g3 hd j hj))
   ·cases e
  |0, .i _,_,_,_,_,e,_,_|0, .u _,_,_,_,_,e,_,_|0, .b,_,_,_,_,e,_,_|0, .s,_,_,_,_,e,_,_|0, .sl _,_,_,_,_,e,_,_|0, .un,_,_,_,_,e,_,_|0, .ar _ _,_,_,_,_,e,_,_|0, .gv,_,_,_,_,e,_,_=>by cases e
  |_+1, .i _,_,_,_,_,e,_,_|_+1, .u _,_,_,_,_,e,_,_|_+1, .b,_,_,_,_,e,_,_|_+1, .s,_,_,_,_,e,_,_|_+1, .sl _,_,_,_,_,e,_,_|_+1, .un,_,_,_,_,e,_,_|_+1, .ar _ _,_,_,_,_,e,_,_|_+1, .gv,_,_,_,_,e,_,_=>by cases e
 ids_fld {k:Nat} {t:Ty} {c:TV} {y:Ty} {p:Nat} (h:fit t c=true) (e:t.o_ k=some (y,p)) (j:Nat) (hj:j∈ids (fx k c)):j∈ids c:=by
  by_cases hg:t= .gv
  ·subst hg;have e:Ty.eU k lH=some (y,p):=e;obtain⟨a,b,d,x,f,g1,f1,f2,f3,f4,f5,g2,g3,g4⟩:=gv5 h;rw[g3] at hj;have hf:fit lH (jQ c)=true:=by
    rw[g1,vR];simp only[adr];exact⟨f1,f2,f3,f4,f5,trivial⟩
   exact g2 j (ids_fldP k lH (jQ c) hf e j hj)
  ·have e:Ty.eU k t=some (y,p):=by
    cases t<;>first|exact e|exact absurd rfl hg
   have e2:fx k c=eU k c:=by
    cases c with
    |v σ v=>
     have e:=gU h;subst e;cases σ<;>first|rfl|exact absurd rfl hg
    |_=>rfl
   rw[e2] at hj;exact ids_fldP k t c h e j hj
end
end Go.Proofs.YtbjcjppphoppfaaGreat.T
