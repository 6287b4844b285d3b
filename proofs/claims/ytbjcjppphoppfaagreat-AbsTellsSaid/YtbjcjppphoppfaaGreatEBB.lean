import Derived.Test.YtbjcjppphoppfaaGreatEBA
set_option linter.all false
namespace Go.Proofs.YtbjcjppphoppfaaGreat.M
open Go.Proofs.YtbjcjppphoppfaaGreat.T hiding a8 ae av aH aw bd bM cC
theorem qK {A b:Bool} {x y:Option Bool} (h:x=some b) (hy:y=some false):(if A=true then x else y)=some (A&&b):=by
 cases A
 ·exact hy
 ·exact h
theorem uK {v:Int} (h:ix 3 v):xH v:=by have:=O' h;unfold xH;omega
theorem dN {l:List dh} (h:Fit (.sl lf) l):nC l:=⟨by have:=h.len;omega,λr hr=>by
 obtain⟨h1,h2,-⟩:=h.2 r hr;exact⟨uK h1,h2⟩⟩
theorem W8 {l:List cy} (hf:Fit (.sl eP) l):Mq l=some (fY l 1000000):=by
 have h:=hf.len;unfold Mq fY;rw[bA l.length (λi=>named (a8 l i).1&&(List.range i).all λj=> !decide ((a8 l j).1=(a8 l i).1)) false () ade ?_ ?_]
 ·have:¬((1000000:Int)<(l.length:Int)):=by omega
  rw[adl this,Bool.not_false,adW];cases(List.range l.length).all (λi=>named (a8 l i).1&&(List.range i).all λj=> !decide ((a8 l j).1=(a8 l i).1))<;>rfl
 ·intro i hi;have hx:=hf.at hi;have WQ:∀{ρ:Type} (k:Nat->Option ρ),T.b_ l.length (i:Int) k=k i:=λk=>by rw[T.d4,adh,adx]
  have hlen:(av i (aH 0 l)).length=i:=by show(List.take i (List.drop 0 l)).length=i;rw[List.drop_zero,adY];omega
  have eR:∀j,j<i->a8 (av i (aH 0 l)) j=a8 l j:=λj hj=>by
   rw[bz (by rw[hlen];exact hj),bz ade];show(List.take i (List.drop 0 l))[j]'_=_;simp
  simp only[cZ,hi,ao,ads,adA,ak,Ey _ hx.1.2,a9,aA,WQ]
  by_cases hn:named (a8 l i).1=true
  ·rw[adq (by rw[hn];decide),hn,adW];obtain⟨q,hq⟩:=lL (E:=Unit) (ρ:=Bool) (f:=λv4=>(if aO v4 ((av i (aH 0 l)).length:Int)=true then(ai (av i (aH 0 l)).length v4 (λv5=>(if A7 (a8 (av i (aH 0 l)) v5).1 (a8 l i).1=true then(bT v4) else(bh (ab 3 v4 1))))) else(lex ()))) (kx:=λ_=>(some (cB 0 (-1)))) (kr:=λv4=>(some (cB 0 v4))) i (λj=> !decide ((a8 l j).1=(a8 l i).1)) () ade (λj hj=>by
    simp only[cZ,hlen,hj,ads,adA,ak,eR j hj,bc,aU (show j<9223372036854775807 by omega),bh,bT];grind) (by simp only[hlen,ba];rfl)
   rw[hq,aU ade];have l1:cB 0 (-1)=false:=by rw[aN];rfl
   have l2:cB 0 (q:Int)=true:=by rw[aN];exact adf
   rw[l1,l2];split<;>rfl
  ·have uh:named (a8 l i).1=false:=by simpa using hn
   rw[adp (by rw[uh];rfl),uh,Bool.false_and,join_some];rfl
 ·rw[ba];rfl
def zG (n:Int) (x:cy):Bool:= !(decide (x.2.1<0)||decide (n<=x.2.1))
def qG (n:Int) (f:bY):Bool:=named f.1&&(fY f.2.2.2.1 16&&(!decide (f.2.1<0)&&(!decide ((f.2.2.2.1.length:Int)<f.2.1)&&(!decide (f.2.2.1< -1)&& !decide (n<=f.2.2.1)))))
def qC (n:Int) (f:bY):Bool:=(qG n f&&(!decide ((f.2.2.2.2.1.length:Int)<1)&& !decide (200<(f.2.2.2.2.1.length:Int))))&&((List.range f.2.2.2.1.length).all (λi=>zG n (a8 f.2.2.2.1 i))&&((List.range f.2.2.2.2.1.length).all (λi=>decide (pP (a8 f.2.2.2.2.1 i)=0))&&(jc f.2.2.2.2.2.1 f.2.2.2.2.1.length&&jc f.2.2.2.2.2.2.1 f.2.2.2.2.1.length)))
theorem J1 {l:List cy} (hf:l.length<=5000):fY l 16=(!decide (16<(l.length:Int))&&fY l 1000000):=by
 unfold fY;have:¬((1000000:Int)<(l.length:Int)):=ade;rw[adl this,Bool.not_false,adW]
theorem VK {l:List aT} {f:bY} (hf:Fit iE f):QN l f=some (qC l.length f):=by
 obtain⟨h1,h2,h3,h4,h5,h6,h7,-⟩:=hf;have hs:=h4.len;have hc:=h5.len;unfold QN qC qG;have e1:(bind (Ex f.1) (λv0=>(af (an v0) (λ_=>(some true)) λ_=>(af (aO 16 f.2.2.2.1.length) (λ_=>(some true)) λ_=>(bind (Mq f.2.2.2.1) (λv1=>(af (an v1) (λ_=>(some true)) λ_=>(af (aO f.2.1 0) (λ_=>(some true)) λ_=>(af (aO f.2.2.2.1.length f.2.1) (λ_=>(some true)) λ_=>(af (aO f.2.2.1 (-1)) (λ_=>(some true)) λ_=>(some (cB l.length f.2.2.1))))))))))))=some (!qG l.length f):=by
  unfold qG;rw[Ey _ h1.2,J1 hs];simp only[W8 h4,a9,aE,aN,aA,bR,Bool.not_and,Bool.not_not,Bool.or_assoc]
 rw[e1,join_some];unfold qG;generalize(named f.1&&(fY f.2.2.2.1 16&&(!decide (f.2.1<0)&&(!decide ((f.2.2.2.1.length:Int)<f.2.1)&&(!decide (f.2.2.1< -1)&& !decide ((l.length:Int)<=f.2.2.1))))))=hd;cases hd with
 |false=>rfl
 |true=>
  rw[aC (c:= !true) rfl];rw[bA f.2.2.2.1.length (λi=>zG l.length (a8 f.2.2.2.1 i)) false () ade ?_ ?_]
  ·rw[bA f.2.2.2.2.1.length (λi=>decide (pP (a8 f.2.2.2.2.1 i)=0)) false () ade ?_ ?_]
   ·refine(qK (qK (b:=(!decide ((f.2.2.2.2.1.length:Int)<1)&& !decide (200<(f.2.2.2.2.1.length:Int)))&&(jc f.2.2.2.2.2.1 f.2.2.2.2.1.length&&jc f.2.2.2.2.2.2.1 f.2.2.2.2.1.length)) ?_ rfl) rfl).trans ?_
    ·rw[Ab (dN h6),a9,Ab (dN h7),a9];unfold yg;have e2:decide ((2:Int)=0)=false:=rfl;have e8:decide ((8:Int)=0)=false:=rfl;have e0:decide ((0:Int)=0)=true:=rfl;simp only[aG,bX,join_some]
     by_cases hn:(f.2.2.2.2.1.length:Int)<1\/200<(f.2.2.2.2.1.length:Int)
     ·rw[adp hn,adp hn,e2];rcases hn with hn|hn<;>simp[hn]
     ·rw[adq hn,adq hn];rw[not_or] at hn;rw[adl hn.1,adl hn.2];cases jc f.2.2.2.2.2.1 f.2.2.2.2.1.length<;>cases jc f.2.2.2.2.2.2.1 f.2.2.2.2.1.length<;>rfl
    ·congr 1;simp only[adW];generalize(!decide ((f.2.2.2.2.1.length:Int)<1)&& !decide (200<(f.2.2.2.2.1.length:Int)))=n;generalize List.all _ _=A;generalize List.all _ _=B;cases A<;>cases B<;>cases n<;>rfl
   ·intro i hi;simp only[cZ,hi,ao,ads,adA,ak,su,a9,aA,aG,bh,bT,aU (show i<9223372036854775807 by omega)];grind
   ·rw[ba];rfl
  ·intro i hi;simp only[cZ,hi,ao,ads,adA,ak,aE,aN,bh,bT,zG,aU (show i<9223372036854775807 by omega)];grind
  ·rw[ba];rfl
theorem VQ {l:List aT} {f:bY} (hf:Fit iE f):QT l f=some (qC l.length f):=by
 obtain⟨h1,h2,h3,h4,h5,h6,h7,-⟩:=hf;have hs:=h4.len;have hc:=h5.len;unfold QT qC;have e1:(bind (IY f.1) (λv0=>(af (an v0) (λ_=>(some true)) λ_=>(bind (IZ f.2.2.2.1 16) (λv1=>(af (an v1) (λ_=>(some true)) λ_=>(af (aO f.2.1 0) (λ_=>(some true)) λ_=>(af (aO f.2.2.2.1.length f.2.1) (λ_=>(some true)) λ_=>(af (aO f.2.2.1 (-1)) (λ_=>(some true)) λ_=>(af (cB l.length f.2.2.1) (λ_=>(some true)) λ_=>(af (aO f.2.2.2.2.1.length 1) (λ_=>(some true)) λ_=>(some (aO 200 f.2.2.2.2.1.length)))))))))))))=some (!(qG l.length f&&(!decide ((f.2.2.2.2.1.length:Int)<1)&& !decide (200<(f.2.2.2.2.1.length:Int))))):=by
  unfold qG;rw[Mu];simp only[Mv (l:=f.2.2.2.1) ade,a9,aE,aN,aA,bR,Bool.not_and,Bool.not_not,Bool.or_assoc]
 rw[e1,join_some];generalize(qG l.length f&&(!decide ((f.2.2.2.2.1.length:Int)<1)&& !decide (200<(f.2.2.2.2.1.length:Int))))=hd;cases hd with
 |false=>rfl
 |true=>
  rw[aC (c:= !true) rfl];rw[bA f.2.2.2.1.length (λi=>zG l.length (a8 f.2.2.2.1 i)) false () ade ?_ ?_]
  ·rw[bA f.2.2.2.2.1.length (λi=>decide (pP (a8 f.2.2.2.2.1 i)=0)) false () ade ?_ ?_]
   ·refine(qK (qK (b:=(jc f.2.2.2.2.2.1 f.2.2.2.2.1.length&&jc f.2.2.2.2.2.2.1 f.2.2.2.2.1.length)) ?_ rfl) rfl).trans rfl;rw[My (dN h6),a9,My (dN h7),a9,bX,join_some]
   ·intro i hi;simp only[cZ,hi,ao,ads,adA,ak,Mw (fp (h5.at hi)),a9,aA,aG,bh,bT,aU (show i<9223372036854775807 by omega)];grind
   ·rw[ba];rfl
  ·intro i hi;simp only[cZ,hi,ao,ads,adA,ak,aE,aN,bh,bT,zG,aU (show i<9223372036854775807 by omega)];grind
  ·rw[ba];rfl
def uj (m:aK):Bool:=decide (fm m.1=0)&&(!decide (32<(m.2.1.length:Int))&&(!decide ((m.2.2.1.length:Int)<1)&& !decide (32<(m.2.2.1.length:Int))))
def Jj (m:aK) (i:Nat):Bool:=qC m.1.length (a8 m.2.2.1 i)&&(List.range i).all λj=> !decide ((a8 m.2.2.1 j).1=(a8 m.2.2.1 i).1)
def mI (m:aK):Bool:=uj m&&((List.range m.1.length).all (λi=> !decide (256<(a8 (dK 1000000 m.1 m.1.length) i).1))&&((List.range m.2.1.length).all (λi=> !decide (64<((a8 m.2.1 i).length:Int)))&&(List.range m.2.2.1.length).all (Jj m)))
theorem Vk {m:aK} (h:Fit bJ m):Qt m=some (mI m):=by
 obtain⟨h1,h2,h3,-⟩:=h;have l1:=h1.len;have l2:=h2.len;have l3:=h3.len;unfold Qt mI;have e1:(bind (C4 m.1) (λv0=>(af (an (bm v0 0)) (λ_=>(some true)) λ_=>(af (aO 32 m.2.1.length) (λ_=>(some true)) λ_=>(af (bm m.2.2.1.length 0) (λ_=>(some true)) λ_=>(some (aO 32 m.2.2.1.length)))))))=some (!uj m):=by
  unfold uj;rw[vF h1];have e0:bm m.2.2.1.length 0=decide ((m.2.2.1.length:Int)<1):=by rw[aG,decide_eq_decide];omega
  rw[e0];simp only[a9,aE,aG,aA,bR,Bool.not_and,Bool.not_not,Bool.or_assoc]
 rw[e1,join_some]
 by_cases hH:uj m=true
 ·rw[hH,aC (c:= !true) rfl,adW];have hk:fm m.1=0:=by
   unfold uj at hH;rw[adr,adk] at hH;exact hH.1
  rw[bA m.1.length (λi=> !decide (256<(a8 (dK 1000000 m.1 m.1.length) i).1)) false () ade ?_ ?_]
  ·rw[bA m.2.1.length (λi=> !decide (64<((a8 m.2.1 i).length:Int))) false () ade ?_ ?_]
   ·rw[fZ (λk=>((k:Int),((),sn (λj=>(a8 m.2.2.1 j).1) k))) m.2.2.1.length (Jj m) false ((),sn (λj=>(a8 m.2.2.1 j).1) m.2.2.1.length) ?_ ade ?_ ?_]
    ·exact qK (qK (by split<;>simp[*]) rfl) rfl
    ·rfl
    ·intro i hi;simp only[cZ,hi,ads,ak,adA];have es:=P8 (λj=>(a8 m.2.2.1 j).1) i;rw[aD rfl,es,VK (h3.at hi),a9,bR,join_some,aA,aU ade];have e3:sn (λj=>(a8 m.2.2.1 j).1) (i+1)=T.sS (a8 m.2.2.1 i).1 (sn (λj=>(a8 m.2.2.1 j).1) i):=rfl;rw[e3];unfold Jj;generalize qC m.1.length (a8 m.2.2.1 i)=p1;generalize((List.range i).all λj=> !decide ((a8 m.2.2.1 j).1=(a8 m.2.2.1 i).1))=p2;cases p1<;>cases p2<;>rfl
    ·rw[ba];rfl
   ·intro i hi;simp only[cZ,hi,ao,ads,adA,ak,aE,bh,bT,aU (show i<9223372036854775807 by omega)];grind
   ·rw[ba];rfl
  ·intro i hi;simp only[cZ,hi,ads];rw[aD rfl,sj h1,a9,aU ade];have hs:iz m.1 (i:Int)=if 256<(a8 (dK 1000000 m.1 m.1.length) i).1 then 16 else 0:=by
    unfold iz;rw[adp hk,adq (show¬((i:Int)<0\/(m.1.length:Int)<=(i:Int)) by omega),adx]
   unfold s_;rw[hs]
   by_cases Rq:256<(a8 (dK 1000000 m.1 m.1.length) i).1
   ·rw[adm Rq,adp Rq,adq (by decide),aD (bG (by decide))];rfl
   ·rw[adl Rq,adq Rq,adp rfl,aC cE];rfl
  ·rw[ba];rfl
 ·have hf:uj m=false:=by simpa using hH
  rw[hf];rfl
theorem Vt {m:aK} (h:Fit bJ m) {n:Nat} (hn:3<n):Qy n m=some (mI m):=by
 obtain⟨h1,h2,h3,-⟩:=h;have l1:=h1.len;have l2:=h2.len;have l3:=h3.len;unfold Qy mI;have e1:(bind (IP n m.1) (λv0=>(af (an (bm v0 0)) (λ_=>(some true)) λ_=>(af (aO 32 m.2.1.length) (λ_=>(some true)) λ_=>(af (aO m.2.2.1.length 1) (λ_=>(some true)) λ_=>(some (aO 32 m.2.2.1.length)))))))=some (!uj m):=by
  unfold uj;rw[LM h1 hn];simp only[a9,aE,aG,aA,bR,Bool.not_and,Bool.not_not,Bool.or_assoc]
 rw[e1,join_some]
 by_cases hH:uj m=true
 ·rw[hH,aC (c:= !true) rfl,adW];have hk:fm m.1=0:=by
   unfold uj at hH;rw[adr,adk] at hH;exact hH.1
  obtain⟨z1,z2⟩:=cw hk;rw[py z1 z2,a9];have el:((dK 1000000 m.1 m.1.length).map (·.1)).length=m.1.length:=by rw[ae0,cN]
  rw[bA m.1.length (λi=> !decide (256<(a8 (dK 1000000 m.1 m.1.length) i).1)) false () ade ?_ ?_]
  ·rw[bA m.2.1.length (λi=> !decide (64<((a8 m.2.1 i).length:Int))) false () ade ?_ ?_]
   ·rw[bA m.2.2.1.length (Jj m) false () ade ?_ ?_]
    ·exact qK (qK (by split<;>simp[*]) rfl) rfl
    ·intro i hi;simp only[cZ,hi,ao,ads,adA,ak,VQ (h3.at hi),a9,aA];unfold Jj;cases hfb:qC m.1.length (a8 m.2.2.1 i) with
     |false=>rfl
     |true=>
      rw[adq (by decide),adW];rw[bA i (λj=> !decide ((a8 m.2.2.1 j).1=(a8 m.2.2.1 i).1)) false () ade ?_ ?_]
      ·rw[aU ade];split<;>rfl
      ·intro j hj;have hl:j<m.2.2.1.length:=ade;simp only[cZ,hj,hl,hi,ao,ads,adA,ak,bc,aU (show j<9223372036854775807 by omega),bh,bT];grind
      ·simp only[ba];rfl
    ·rw[ba];rfl
   ·intro i hi;simp only[cZ,hi,ao,ads,adA,ak,aE,bh,bT,aU (show i<9223372036854775807 by omega)];grind
   ·rw[ba];rfl
  ·intro i hi;have e0:a8 ((dK 1000000 m.1 m.1.length).map (·.1)) i=(a8 (dK 1000000 m.1 m.1.length) i).1:=eC _ (by rw[cN];exact hi);rw[el];simp only[cZ,hi,ao,ads,adA,ak,e0,aE,bh,bT,aU (show i<9223372036854775807 by omega)];grind
  ·rw[el,ba];rfl
 ·have hf:uj m=false:=by simpa using hH
  rw[hf];rfl
noncomputable def vN (n:Int):List Nat:=iC 10 (bF 7 n)
theorem cS (n:Int):(vN n).length<=10:=dL 10 _
theorem E0 (n:Int):bF 7 n<18446744073709551616:=by rw[lV];omega
theorem iO (n:Int):gi (bF 7 n)=some (vN n):=sq (E0 n)
theorem kV (n:Int):oK n=some (vN n):=by unfold oK;rw[nd (E0 n)];rfl
noncomputable def xz (s:List Nat):List Nat:=vN s.length++s
theorem El {s:List Nat} (h:s.length<=5000):IS s=some (xz s):=by
 have:=cS s.length;unfold IS;rw[nd (E0 _),a9,aY (by rw[ay];show(vN _).length+_<=_;omega)];rfl
noncomputable def pC (l:List cy):Nat->List Nat
 |0=>[]
 |k+1=>pC l k++(xz (a8 l k).1++vN (a8 l k).2.1)
theorem jd {l:List cy} (h:Fit (.sl eP) l):∀k,k<=l.length->(pC l k).length<=6000*k
 |0,_=>adw _
 |k+1,hk=>by
  have ih:=jd h k ade;have:=(h.at (i:=k) ade).1.1;have:=cS (a8 l k).1.length;have:=cS (a8 l k).2.1;simp only[pC,xz,ado];omega
theorem Ch {ρ:Type} {l:List cy} (h:Fit (.sl eP) l) (hl:l.length<=100) (pre:List Nat) (hp:pre.length<=500000000) (K:List Nat->Option ρ) (R:List Nat->Option ρ):
 (loop (Int×(List Nat)) (List Nat) (List Nat) (λv6=>(af (aO v6.1 l.length) (λ_=>(ai l.length v6.1 (λv7=>(bind (gi (bF 7 ((a8 l v7).1.length:Int))) (λv8=>(bj (aJ v6.2.length v8.length) (bj (aJ (aw v6.2 v8).length (a8 l v7).1.length) (bind (gi (bF 7 (a8 l v7).2.1)) (λv9=>(bj (aJ (aw (aw v6.2 v8) (a8 l v7).1).length v9.length) (bh ((ab 3 v6.1 1),(aw (aw (aw v6.2 v8) (a8 l v7).1) v9))))))))))))) λ_=>(lex v6.2))) (0,pre) K R)=K (pre++pC l l.length):=by
 rw[aV (λk=>((k:Int),pre++pC l k)) l.length (pre++pC l l.length) ?_ ade ?_ ?_]
 ·show _=(((0:Nat):Int),pre++[]);rw[adP];rfl
 ·intro k hk;have b1:=jd h k ade;have b2:=(h.at hk).1.1;have b3:=cS (a8 l k).1.length;have b4:=cS (a8 l k).2.1;simp only[cZ,hk,ao,ads,adA,ak,iO,a9,aU (show k<9223372036854775807 by omega),aw,ad_];rw[aY (by simp only[ay,ado];omega),aY (by simp only[ay,ado];omega),aY (by simp only[ay,ado];omega)];simp only[pC,xz,adQ];rfl
 ·simp only[ba,ao];rfl
theorem LN {l:List cy} (h:Fit (.sl eP) l) (hl:l.length<=100):IQ l=some (vN l.length++pC l l.length):=by
 unfold IQ;rw[kV,a9];rw[aV (λk=>((k:Int),vN l.length++pC l k)) l.length (vN l.length++pC l l.length) ?_ ade ?_ ?_]
 ·show _=(((0:Nat):Int),vN l.length++[]);rw[adP];rfl
 ·intro k hk;have b0:=cS l.length;have b1:=jd h k ade;have b2:=(h.at hk).1.1;have b3:=cS (a8 l k).1.length;have b4:=cS (a8 l k).2.1;simp only[cZ,hk,ao,ads,adA,ak,El b2,kV,a9,aU (show k<9223372036854775807 by omega),aw,ad_];rw[aY (by simp only[ay,ado,xz];omega),aY (by simp only[ay,ado,xz];omega)];simp only[pC,xz,adQ];rfl
 ·simp only[ba,ao];rfl
noncomputable def ti (t:aT):List Nat:=[t.1]++(if t.1=4\/t.1=7 then vN t.2.1 else if t.1=6 then vN t.2.1++vN t.2.2.1 else if t.1=5 then vN t.2.2.2.1.length++pC t.2.2.2.1 t.2.2.2.1.length else[])
noncomputable def gh (l:List aT):Nat->List Nat
 |0=>[]
 |k+1=>gh l k++ti (a8 l k)
theorem Ps {t:aT} (h:Fit ca t) (hl:t.2.2.2.1.length<=100):(ti t).length<=1000000:=by
 obtain⟨-,-,-,h4,-⟩:=h;have b1:=jd h4 _ (adw _);have b2:=cS t.2.1;have b3:=cS t.2.2.1;have b4:=cS t.2.2.2.1.length;unfold ti;rw[ado];split
 ·simp only[adJ];omega
 ·split
  ·simp only[adJ,ado];omega
  ·split
   ·simp only[adJ,ado];omega
   ·simp
theorem lX {l:List aT} (h:Fit (.sl ca) l) (hn:∀i,i<l.length->(a8 l i).2.2.2.1.length<=100):∀k,k<=l.length->(gh l k).length<=1000000*k
 |0,_=>adw _
 |k+1,hk=>by
  have ih:=lX h hn k ade;have:=Ps (h.at (i:=k) ade) (hn k ade);simp only[gh,ado];omega
theorem J_ {ρ:Type} {l:List aT} (h:Fit (.sl ca) l) (hl:l.length<=32) (hn:∀i,i<l.length->(a8 l i).2.2.2.1.length<=100) (pre:List Nat) (hp:pre.length<=100000000) (K:List Nat->Option ρ) (R:List Nat->Option ρ):
 (loop (Int×(List Nat)) (List Nat) (List Nat) (λv2=>(af (aO v2.1 l.length) (λ_=>(ai l.length v2.1 (λv3=>(bj (aJ v2.2.length 1) (join Bool (af (aR (a8 l v3).1 4) (λ_=>(some true)) λ_=>(some (aR (a8 l v3).1 7))) (λv4=>(af v4 (λ_=>(bind (gi (bF 7 (a8 l v3).2.1)) (λv5=>(bj (aJ (aw v2.2 [(a8 l v3).1]).length v5.length) (bh ((ab 3 v2.1 1),(aw (aw v2.2 [(a8 l v3).1]) v5))))))) λ_=>(af (aR (a8 l v3).1 6) (λ_=>(bind (gi (bF 7 (a8 l v3).2.1)) (λv5=>(bj (aJ (aw v2.2 [(a8 l v3).1]).length v5.length) (bind (gi (bF 7 (a8 l v3).2.2.1)) (λv6=>(bj (aJ (aw (aw v2.2 [(a8 l v3).1]) v5).length v6.length) (bh ((ab 3 v2.1 1),(aw (aw (aw v2.2 [(a8 l v3).1]) v5) v6)))))))))) λ_=>(af (aR (a8 l v3).1 5) (λ_=>(bind (gi (bF 7 ((a8 l v3).2.2.2.1.length:Int))) (λv5=>(bj (aJ (aw v2.2 [(a8 l v3).1]).length v5.length) (loop (Int×(List Nat)) (List Nat) (List Nat) (λv6=>(af (aO v6.1 ((a8 l v3).2.2.2.1.length:Int)) (λ_=>(ai (a8 l v3).2.2.2.1.length v6.1 (λv7=>(bind (gi (bF 7 ((a8 (a8 l v3).2.2.2.1 v7).1.length:Int))) (λv8=>(bj (aJ v6.2.length v8.length) (bj (aJ (aw v6.2 v8).length (a8 (a8 l v3).2.2.2.1 v7).1.length) (bind (gi (bF 7 (a8 (a8 l v3).2.2.2.1 v7).2.1)) (λv9=>(bj (aJ (aw (aw v6.2 v8) (a8 (a8 l v3).2.2.2.1 v7).1).length v9.length) (bh ((ab 3 v6.1 1),(aw (aw (aw v6.2 v8) (a8 (a8 l v3).2.2.2.1 v7).1) v9))))))))))))) λ_=>(lex v6.2))) (0,(aw (aw v2.2 [(a8 l v3).1]) v5)) (λv6=>(bh ((ab 3 v2.1 1),v6))) (λv6=>none)))))) λ_=>(bh ((ab 3 v2.1 1),(aw v2.2 [(a8 l v3).1])))))))))))) λ_=>(lex v2.2))) (0,pre) K R)=K (pre++gh l l.length):=by
 rw[aV (λk=>((k:Int),pre++gh l k)) l.length (pre++gh l l.length) ?_ ade ?_ ?_]
 ·show _=(((0:Nat):Int),pre++[]);rw[adP];rfl
 ·intro k hk;have b1:=lX h hn k ade;have hx:=h.at hk;have hxn:=hn k hk;rw[show gh l (k+1)=gh l k++ti (a8 l k) from rfl];simp only[cZ,hk,ao,ads,adA,ak];generalize a8 l k=t at hx hxn⊢;have b2:=cS t.2.1;have b3:=cS t.2.2.1;have b4:=cS t.2.2.2.1.length;rw[aY (by simp only[ay,ado];omega)];have e1:(if aR t.1 4=true then(some true) else(some (aR t.1 7)))=some (decide (t.1=4\/t.1=7)):=by
   simp only[ao,aE,aN,aG,aW,aZ,ax,bc,aA,bg,a9,au,join_some,join_none,ak,aI,aF,ay,aS,decide_eq_true_eq,Bool.not_eq_true',decide_eq_false_iff_not];grind
  rw[e1,join_some,aU ade];have Ja:=λ(a:List Nat) (ha:a.length<=500000000)=>Ch (ρ:=T.LR (Int×List Nat) (List Nat) (List Nat)) hx.2.2.2.1 hxn a ha
  simp only[ao] at Ja
  by_cases k47:t.1=4\/t.1=7
  ·rw[adp (adm k47),iO,a9];simp only[aw,ad_];rw[aY (by simp only[ay,ado,adJ];omega)];unfold ti;rw[adp k47];simp only[adQ];rfl
  ·rw[adq (by rw[adk];exact k47)]
   by_cases k6:t.1=6
   ·rw[adp (by rw[ax];exact adm k6),iO,iO,a9,a9];simp only[aw,ad_];rw[aY (by simp only[ay,ado,adJ];omega),aY (by simp only[ay,ado,adJ];omega)];unfold ti;rw[adq k47,adp k6];simp only[adQ];rfl
   ·rw[adq (by rw[ax,adk];exact k6)]
    by_cases k5:t.1=5
    ·rw[adp (by rw[ax];exact adm k5),iO,a9];simp only[aw,ad_];rw[aY (by simp only[ay,ado,adJ];omega)];simp only[aw,ad_] at Ja;rw[Ja _ (by simp only[ado,adJ];omega)];unfold ti;rw[adq k47,adq k6,adp k5];simp only[adQ];rfl
    ·rw[adq (by rw[ax,adk];exact k5)];unfold ti;rw[adq k47,adq k6,adq k5];simp only[aw,ad_,adQ,adP];rfl
 ·simp only[ba,ao];rfl
theorem Pt {ρ:Type} {l:List aT} (h:Fit (.sl ca) l) (hl:l.length<=32) (hn:∀i,i<l.length->(a8 l i).2.2.2.1.length<=100) (pre:List Nat) (hp:pre.length<=100000000) (K:List Nat->Option ρ) (R:List Nat->Option ρ):
 (loop (Int×(List Nat)) (List Nat) (List Nat) (λv1=>(af (aO v1.1 l.length) (λ_=>(ai l.length v1.1 (λv2=>(bj (aJ v1.2.length 1) (join Bool (af (aR (a8 l v2).1 4) (λ_=>(some true)) λ_=>(some (aR (a8 l v2).1 7))) (λv3=>(af v3 (λ_=>(bind (oK (a8 l v2).2.1) (λv4=>(bj (aJ (aw v1.2 [(a8 l v2).1]).length v4.length) (bh ((ab 3 v1.1 1),(aw (aw v1.2 [(a8 l v2).1]) v4))))))) λ_=>(af (aR (a8 l v2).1 6) (λ_=>(bind (oK (a8 l v2).2.1) (λv4=>(bj (aJ (aw v1.2 [(a8 l v2).1]).length v4.length) (bind (oK (a8 l v2).2.2.1) (λv5=>(bj (aJ (aw (aw v1.2 [(a8 l v2).1]) v4).length v5.length) (bh ((ab 3 v1.1 1),(aw (aw (aw v1.2 [(a8 l v2).1]) v4) v5)))))))))) λ_=>(af (aR (a8 l v2).1 5) (λ_=>(bind (IQ (a8 l v2).2.2.2.1) (λv4=>(bj (aJ (aw v1.2 [(a8 l v2).1]).length v4.length) (bh ((ab 3 v1.1 1),(aw (aw v1.2 [(a8 l v2).1]) v4))))))) λ_=>(bh ((ab 3 v1.1 1),(aw v1.2 [(a8 l v2).1])))))))))))) λ_=>(lex v1.2))) (0,pre) K R)=K (pre++gh l l.length):=by
 rw[aV (λk=>((k:Int),pre++gh l k)) l.length (pre++gh l l.length) ?_ ade ?_ ?_]
 ·show _=(((0:Nat):Int),pre++[]);rw[adP];rfl
 ·intro k hk;have b1:=lX h hn k ade;have hx:=h.at hk;have hxn:=hn k hk;rw[show gh l (k+1)=gh l k++ti (a8 l k) from rfl];simp only[cZ,hk,ao,ads,adA,ak];generalize a8 l k=t at hx hxn⊢;have b2:=cS t.2.1;have b3:=cS t.2.2.1;have b4:=cS t.2.2.2.1.length;have b5:=jd hx.2.2.2.1 _ (adw _);rw[aY (by simp only[ay,ado];omega)];have e1:(if aR t.1 4=true then(some true) else(some (aR t.1 7)))=some (decide (t.1=4\/t.1=7)):=by
   simp only[ao,aE,aN,aG,aW,aZ,ax,bc,aA,bg,a9,au,join_some,join_none,ak,aI,aF,ay,aS,decide_eq_true_eq,Bool.not_eq_true',decide_eq_false_iff_not];grind
  rw[e1,join_some,aU ade]
  by_cases k47:t.1=4\/t.1=7
  ·rw[adp (adm k47),kV,a9];simp only[aw,ad_];rw[aY (by simp only[ay,ado,adJ];omega)];unfold ti;rw[adp k47];simp only[adQ];rfl
  ·rw[adq (by rw[adk];exact k47)]
   by_cases k6:t.1=6
   ·rw[adp (by rw[ax];exact adm k6),kV,kV,a9,a9];simp only[aw,ad_];rw[aY (by simp only[ay,ado,adJ];omega),aY (by simp only[ay,ado,adJ];omega)];unfold ti;rw[adq k47,adp k6];simp only[adQ];rfl
   ·rw[adq (by rw[ax,adk];exact k6)]
    by_cases k5:t.1=5
    ·rw[adp (by rw[ax];exact adm k5),LN hx.2.2.2.1 hxn,a9];simp only[aw,ad_];rw[aY (by simp only[ay,ado,adJ];omega)];unfold ti;rw[adq k47,adq k6,adp k5];simp only[adQ];rfl
    ·rw[adq (by rw[ax,adk];exact k5)];unfold ti;rw[adq k47,adq k6,adq k5];simp only[aw,ad_,adQ,adP];rfl
 ·simp only[ba,ao];rfl
noncomputable def kP (l:List (List Nat)):Nat->List Nat
 |0=>[]
 |k+1=>kP l k++xz (a8 l k)
theorem lW {l:List (List Nat)} (h:Fit (.sl .s) l):∀k,k<=l.length->(kP l k).length<=6000*k
 |0,_=>adw _
 |k+1,hk=>by
  have ih:=lW h k ade;have:=(h.at (i:=k) ade).1;have:=cS (a8 l k).length;simp only[kP,xz,ado];omega
noncomputable def Yx (x:aX):List Nat:=(Em x).getD []
theorem Ow {x:aX} (hx:kH x) (h:pP x=0):Em x=some (Yx x)/\IN x=some (Yx x,0)/\(Yx x).length<=31:=by
 obtain⟨b,h1,h2,h3⟩:=JB hx (by rw[su,h]);have:Yx x=b:=by unfold Yx;rw[h1];rfl
 rw[this];exact⟨h1,h2,h3⟩
noncomputable def oI (l:List aX):Nat->List Nat
 |0=>[]
 |k+1=>oI l k++Yx (a8 l k)
theorem lD {l:List aX} (h:Fit (.sl cK) l) (h0:∀i,i<l.length->pP (a8 l i)=0):∀k,k<=l.length->(oI l k).length<=31*k
 |0,_=>adw _
 |k+1,hk=>by
  have ih:=lD h h0 k ade;have:=(Ow (fp (h.at (i:=k) ade)) (h0 k ade)).2.2;simp only[oI,ado];omega
noncomputable def OL (f:bY):List Nat:=xz f.1++(vN f.2.1++(iC 10 (zz f.2.2.1)++(vN f.2.2.2.1.length++(pC f.2.2.2.1 f.2.2.2.1.length++(vN f.2.2.2.2.1.length++oI f.2.2.2.2.1 f.2.2.2.2.1.length)))))
noncomputable def Au (f:bY):List Nat:=OL f++(kq f.2.2.2.2.2.1 f.2.2.2.2.2.1.length++kq f.2.2.2.2.2.2.1 f.2.2.2.2.2.2.1.length)
noncomputable def kC (l:List bY):Nat->List Nat
 |0=>[]
 |k+1=>kC l k++Au (a8 l k)
structure yn (n:Int) (f:bY):Prop where
 s:f.2.2.2.1.length<=16
 c:1<=f.2.2.2.2.1.length/\f.2.2.2.2.1.length<=200
 p:0<=f.2.1/\f.2.1<=f.2.2.2.1.length
 r: -1<=f.2.2.1/\f.2.2.1<n
 d:∀i,i<f.2.2.2.1.length->0<=(a8 f.2.2.2.1 i).2.1/\(a8 f.2.2.2.1 i).2.1<n
 o:∀i,i<f.2.2.2.2.1.length->pP (a8 f.2.2.2.2.1 i)=0
 t:yg f.2.2.2.2.2.1 f.2.2.2.2.1.length=0/\yg f.2.2.2.2.2.2.1 f.2.2.2.2.1.length=0
theorem Nc {n:Int} {f:bY} (h:qC n f=true):yn n f:=by
 unfold qC qG at h;simp only[adr,adn,adj,adE,adL,zG,ad',adk] at h;obtain⟨⟨⟨h1,h2,h3,h4,h5,h6⟩,h7,h8⟩,h9,Rm,h11,h12⟩:=h;have hs:f.2.2.2.1.length<=16:=by
  unfold fY at h2;simp only[adr,adn,adj] at h2;omega
 refine⟨hs,⟨ade,ade⟩,⟨ade,ade⟩,⟨ade,ade⟩,λi hi=> ?_,Rm,?_⟩
 ·have:=h9 i hi;omega
 ·unfold yg;constructor
  ·rw[adi,adp h11]
  ·rw[adi,adp h12]
theorem wT {f:bY} (h:Fit iE f) {n:Int} (ok:yn n f):(OL f).length<=200000:=by
 obtain⟨h1,h2,h3,h4,h5,h6,h7,-⟩:=h;have b1:=h1.1;have b2:=cS f.1.length;have b3:=cS f.2.1;have b4:=dL 10 (zz f.2.2.1);have b5:=cS f.2.2.2.1.length;have b6:=jd h4 _ (adw _);have b7:=cS f.2.2.2.2.1.length;have b8:=lD h5 ok.o _ (adw _);have c1:=ok.s;have c2:=ok.c;simp only[OL,xz,ado];omega
theorem Nb {f:bY} (h:Fit iE f) {n:Int} (ok:yn n f):(Au f).length<=300000:=by
 have b0:=wT h ok;obtain⟨h1,h2,h3,h4,h5,h6,h7,-⟩:=h;have t1:=(sr (dN h6) ok.t.1).2.2;have t2:=(sr (dN h7) ok.t.2).2.2;have b1:=iA f.2.2.2.2.2.1 f.2.2.2.2.2.1.length;have b2:=iA f.2.2.2.2.2.2.1 f.2.2.2.2.2.2.1.length;simp only[Au,ado];omega
theorem sA {l:List bY} (h:Fit (.sl iE) l) {n:Int} (ok:∀i,i<l.length->yn n (a8 l i)):∀k,k<=l.length->(kC l k).length<=300000*k
 |0,_=>adw _
 |k+1,hk=>by
  have ih:=sA h ok k ade;have:=Nb (h.at (i:=k) ade) (ok k ade);simp only[kC,ado];omega
noncomputable def Ji (m:aK):List Nat:=((((vN m.1.length++gh m.1 m.1.length)++vN m.2.1.length)++kP m.2.1 m.2.1.length)++vN m.2.2.1.length)++kC m.2.2.1 m.2.2.1.length
noncomputable def iG (m:aK):Int:=if mI m=true then(if 20000<((Ji m).length:Int) then 4 else 0) else 8
structure oD (m:aK):Prop where
 k:fm m.1=0
 t:m.2.1.length<=32
 f:1<=m.2.2.1.length/\m.2.2.1.length<=32
 z:∀i,i<m.1.length->(a8 (dK 1000000 m.1 m.1.length) i).1<=256
 x:∀i,i<m.2.1.length->(a8 m.2.1 i).length<=64
 g:∀i,i<m.2.2.1.length->yn m.1.length (a8 m.2.2.1 i)
theorem vO {m:aK} (h:mI m=true):oD m:=by
 unfold mI uj at h;simp only[adr,adn,adj,adE,adL,adk] at h;obtain⟨⟨h1,h2,h3,h4⟩,h5,h6,h7⟩:=h;refine⟨h1,ade,⟨ade,ade⟩,λi hi=> ?_,λi hi=> ?_,λi hi=> ?_⟩
 ·have:=h5 i hi;omega
 ·have:=h6 i hi;omega
 ·have:=h7 i hi;unfold Jj at this;rw[adr] at this;exact Nc this.1
theorem tF {l:List aT} (h:fm l=0) {i:Nat} (hi:i<l.length):(a8 l i).2.2.2.1.length<=100:=by
 have:=(dq ((cw h).2 i hi)).n;omega
theorem ZV {m:aK} (hf:Fit bJ m):∃b,f95 m=some (b,iG m):=by
 unfold f95 iG;rw[Vk hf,a9]
 by_cases h:mI m=true
 ·have ok:=vO h;obtain⟨h1,h2,h3,-⟩:=hf;have tl:=(cw ok.k).1;have tn:=λi hi=>tF ok.k (i:=i) hi
  have c1:=cS m.1.length;have c2:=lX h1 tn _ (adw _);have c3:=cS m.2.1.length;have c4:=lW h2 _ (adw _);have c5:=cS m.2.2.1.length;have c6:=ok.t;have c7:=ok.f;rw[h,aC (c:=an true) rfl,iO,a9,aY (by simp only[ay];omega),adp rfl];rw[show aw [] (vN (m.1.length:Int))=vN (m.1.length:Int) from rfl,J_ h1 tl tn _ ade,iO,a9];simp only[aw,ad_];rw[aY (by simp only[ay,ado];omega)];rw[aV (λk=>((k:Int),((vN (m.1.length:Int)++gh m.1 m.1.length)++vN (m.2.1.length:Int))++kP m.2.1 k)) m.2.1.length (((vN (m.1.length:Int)++gh m.1 m.1.length)++vN (m.2.1.length:Int))++kP m.2.1 m.2.1.length) ?_ ade ?_ ?_]
  ·rw[iO,a9,aY (by simp only[ay,ado];omega)];rw[aV (λk=>((k:Int),((((vN (m.1.length:Int)++gh m.1 m.1.length)++vN (m.2.1.length:Int))++kP m.2.1 m.2.1.length)++vN m.2.2.1.length)++kC m.2.2.1 k)) m.2.2.1.length (Ji m) ?_ ade ?_ ?_]
   ·rw[aE]
    by_cases hb:20000<((Ji m).length:Int)
    ·rw[adp hb,aD (adm hb)];exact⟨_,rfl⟩
    ·rw[adq hb,aC (adl hb)];exact⟨_,rfl⟩
   ·show _=(((0:Nat):Int),_++[]);rw[adP];rfl
   ·intro k hk;have hx:=h3.at hk;have okf:=ok.g k hk;have d1:=sA h3 ok.g k ade;have d2:=wT hx okf;rw[show kC m.2.2.1 (k+1)=kC m.2.2.1 k++Au (a8 m.2.2.1 k) from rfl];generalize Nu:((((vN (m.1.length:Int)++gh m.1 m.1.length)++vN (m.2.1.length:Int))++kP m.2.1 m.2.1.length)++vN (m.2.2.1.length:Int))=pre;have x_:pre.length<=50000000:=by rw[<-Nu];simp only[ado];omega
    simp only[cZ,hk,ao,ads,adA,ak];generalize a8 m.2.2.1 k=f at hx okf d2⊢;generalize J7:pre++kC m.2.2.1 k=acc;have hal:acc.length<=70000000:=by rw[<-J7,ado];omega
    obtain⟨g1,g2,g3,g4,g5,g6,g7,-⟩:=hx;have b1:=g1.1;have b2:=cS f.1.length;have b3:=cS f.2.1;have b4:=dL 10 (zz f.2.2.1);have b5:=cS f.2.2.2.1.length;have b6:=jd g4 _ (adw _);have b7:=cS f.2.2.2.2.1.length;have a1:=okf.s;have a2:=okf.c;rw[iO,iO,LA (uK g3),iO,a9,a9,a9,a9];rw[aY (by simp only[ay,ado];omega),aY (by simp only[ay,ado];omega),aY (by simp only[ay,ado];omega),aY (by simp only[ay,ado];omega),aY (by simp only[ay,ado];omega)];have Ja:=λ(a:List Nat) (ha:a.length<=500000000)=>Ch (ρ:=T.LR (Int×List Nat) (List Nat) (List Nat×Int)) g4 ade a ha
    simp only[ao,aw,ad_] at Ja;rw[Ja _ (by simp only[ado];omega),iO,a9,aY (by simp only[ay,ado];omega)];generalize hq:(acc++vN (f.1.length:Int)++f.1++vN f.2.1++iC 10 (zz f.2.2.1)++vN (f.2.2.2.1.length:Int)++pC f.2.2.2.1 f.2.2.2.1.length++vN (f.2.2.2.2.1.length:Int))=q;have hql:q.length<=70300000:=by rw[<-hq];simp only[ado];omega
    rw[aV (λj=>((j:Int),q++oI f.2.2.2.2.1 j)) f.2.2.2.2.1.length (q++oI f.2.2.2.2.1 f.2.2.2.2.1.length) ?_ ade ?_ ?_]
    ·obtain⟨t1,-,t3⟩:=sr (dN g6) okf.t.1;obtain⟨u1,-,u3⟩:=sr (dN g7) okf.t.2;have e1:=iA f.2.2.2.2.2.1 f.2.2.2.2.2.1.length;have e2:=iA f.2.2.2.2.2.2.1 f.2.2.2.2.2.2.1.length;have e3:=lD g5 okf.o _ (adw _);rw[aV (λj=>((j:Int),if j=0 then q++oI f.2.2.2.2.1 f.2.2.2.2.1.length else if j=1 then q++oI f.2.2.2.2.1 f.2.2.2.2.1.length++kq f.2.2.2.2.2.1 f.2.2.2.2.2.1.length else q++oI f.2.2.2.2.1 f.2.2.2.2.1.length++kq f.2.2.2.2.2.1 f.2.2.2.2.2.1.length++kq f.2.2.2.2.2.2.1 f.2.2.2.2.2.2.1.length)) 2 (q++oI f.2.2.2.2.1 f.2.2.2.2.1.length++kq f.2.2.2.2.2.1 f.2.2.2.2.2.1.length++kq f.2.2.2.2.2.2.1 f.2.2.2.2.2.2.1.length) ?_ ade ?_ ?_]
     ·rw[adq (by rw[cE];decide),aU ade];have fin:pre++(kC m.2.2.1 k++Au f)=q++oI f.2.2.2.2.1 f.2.2.2.2.1.length++kq f.2.2.2.2.2.1 f.2.2.2.2.2.1.length++kq f.2.2.2.2.2.2.1 f.2.2.2.2.2.2.1.length:=by
       rw[<-hq,<-J7];simp only[Au,OL,xz,adQ]
      rw[fin];rfl
     ·rfl
     ·intro j hj;have hj:j=0\/j=1:=ade;rcases hj with rfl|rfl
      ·have l1:aO ((0:Nat):Int) 2=true:=by rw[aE];rfl
       have l2:a8 [f.2.2.2.2.2.1,f.2.2.2.2.2.2.1] 0=f.2.2.2.2.2.1:=rfl;simp only[l1,adA,ak,l2,t1,a9,cE,aeb,ae7,aU (show 0<9223372036854775807 by omega)];rw[adh,aY (by simp only[ay,ado];omega)];rfl
      ·have l1:aO ((1:Nat):Int) 2=true:=by rw[aE];rfl
       have l2:a8 [f.2.2.2.2.2.1,f.2.2.2.2.2.2.1] 1=f.2.2.2.2.2.2.1:=rfl;simp only[l1,adA,ak,l2,u1,a9,cE,aeb,ae7,aU (show 1<9223372036854775807 by omega)];rw[adh,adi,aY (by simp only[ay,ado];omega)];rfl
     ·have l1:aO ((2:Nat):Int) 2=false:=by rw[aE];rfl
      simp only[l1];rfl
    ·show _=(((0:Nat):Int),_++[]);rw[adP];rfl
    ·intro j hj;have e3:=lD g5 okf.o j ade;obtain⟨o1,o2,o3⟩:=Ow (fp (g5.at hj)) (okf.o j hj);simp only[cZ,hj,ads,adA,ak,o2,a9,cE,aeb,ae7,aU (show j<9223372036854775807 by omega)];rw[aY (by simp only[ay,ado];omega)];simp only[oI,adQ];rfl
    ·simp only[ba];rfl
   ·simp only[ba,ao];rfl
  ·show _=(((0:Nat):Int),_++[]);rw[adP];rfl
  ·intro k hk;have d1:=lW h2 k ade;have d2:=(h2.at hk).1;have d3:=cS (a8 m.2.1 k).length;simp only[cZ,hk,ao,ads,adA,ak,iO,a9,aU (show k<9223372036854775807 by omega)];rw[aY (by simp only[ay,ado];omega),aY (by simp only[ay,ado];omega)];simp only[kP,xz,adQ];rfl
  ·simp only[ba,ao];rfl
 ·have PN:mI m=false:=by simpa using h
  rw[PN];exact⟨[],rfl⟩
theorem GU {m:aK} (hf:Fit bJ m):Ww m=some (iG m):=by
 obtain⟨b,hb⟩:=ZV hf;unfold Ww;rw[hb];rfl
theorem Vu {m:aK} (hf:Fit bJ m) (h:mI m=true):Qz m=some (Ji m):=by
 have ok:=vO h;obtain⟨h1,h2,h3,-⟩:=hf;have tl:=(cw ok.k).1;have tn:=λi hi=>tF ok.k (i:=i) hi
 have c1:=cS m.1.length;have c2:=lX h1 tn _ (adw _);have c3:=cS m.2.1.length;have c4:=lW h2 _ (adw _);have c5:=cS m.2.2.1.length;have c6:=ok.t;have c7:=ok.f;unfold Qz;rw[kV,a9,Pt h1 tl tn _ ade,kV,a9];simp only[aw,ad_];rw[aY (by simp only[ay,ado];omega)];rw[aV (λk=>((k:Int),((vN (m.1.length:Int)++gh m.1 m.1.length)++vN (m.2.1.length:Int))++kP m.2.1 k)) m.2.1.length (((vN (m.1.length:Int)++gh m.1 m.1.length)++vN (m.2.1.length:Int))++kP m.2.1 m.2.1.length) ?_ ade ?_ ?_]
 ·rw[kV,a9,aY (by simp only[ay,ado];omega)];rw[aV (λk=>((k:Int),((((vN (m.1.length:Int)++gh m.1 m.1.length)++vN (m.2.1.length:Int))++kP m.2.1 m.2.1.length)++vN m.2.2.1.length)++kC m.2.2.1 k)) m.2.2.1.length (Ji m) ?_ ade ?_ ?_]
  ·show _=(((0:Nat):Int),_++[]);rw[adP];rfl
  ·intro k hk;have hx:=h3.at hk;have okf:=ok.g k hk;have d1:=sA h3 ok.g k ade;have d2:=wT hx okf;rw[show kC m.2.2.1 (k+1)=kC m.2.2.1 k++Au (a8 m.2.2.1 k) from rfl];generalize Nu:((((vN (m.1.length:Int)++gh m.1 m.1.length)++vN (m.2.1.length:Int))++kP m.2.1 m.2.1.length)++vN (m.2.2.1.length:Int))=pre;have x_:pre.length<=50000000:=by rw[<-Nu];simp only[ado];omega
   simp only[cZ,hk,ao,ads,adA,ak];generalize a8 m.2.2.1 k=f at hx okf d2⊢;generalize J7:pre++kC m.2.2.1 k=acc;have hal:acc.length<=70000000:=by rw[<-J7,ado];omega
   obtain⟨g1,g2,g3,g4,g5,g6,g7,-⟩:=hx;have b1:=g1.1;have b2:=cS f.1.length;have b3:=cS f.2.1;have b4:=dL 10 (zz f.2.2.1);have b5:=cS f.2.2.2.1.length;have b6:=jd g4 _ (adw _);have b7:=cS f.2.2.2.2.1.length;have a1:=okf.s;have a2:=okf.c;rw[El b1,a9,kV,a9,LQ (uK g3),a9,nd (PF (uK g3)),a9,LN g4 ade,a9,kV,a9];rw[aY (by simp only[ay,ado,xz];omega),aY (by simp only[ay,ado,xz];omega),aY (by simp only[ay,ado,xz];omega),aY (by simp only[ay,ado,xz];omega),aY (by simp only[ay,ado,xz];omega)];generalize hq:(acc++xz f.1++vN f.2.1++iC 10 (zz f.2.2.1)++(vN (f.2.2.2.1.length:Int)++pC f.2.2.2.1 f.2.2.2.1.length)++vN (f.2.2.2.2.1.length:Int))=q;have hql:q.length<=70300000:=by rw[<-hq];simp only[ado,xz];omega
   rw[aV (λj=>((j:Int),q++oI f.2.2.2.2.1 j)) f.2.2.2.2.1.length (q++oI f.2.2.2.2.1 f.2.2.2.2.1.length) ?_ ade ?_ ?_]
   ·obtain⟨-,t2,t3⟩:=sr (dN g6) okf.t.1;obtain⟨-,u2,u3⟩:=sr (dN g7) okf.t.2;have e1:=iA f.2.2.2.2.2.1 f.2.2.2.2.2.1.length;have e2:=iA f.2.2.2.2.2.2.1 f.2.2.2.2.2.2.1.length;have e3:=lD g5 okf.o _ (adw _);rw[t2,u2,a9,a9,aY (by simp only[ay,ado];omega),aY (by simp only[ay,ado];omega),aU ade];have fin:pre++(kC m.2.2.1 k++Au f)=q++oI f.2.2.2.2.1 f.2.2.2.2.1.length++kq f.2.2.2.2.2.1 f.2.2.2.2.2.1.length++kq f.2.2.2.2.2.2.1 f.2.2.2.2.2.2.1.length:=by
     rw[<-hq,<-J7];simp only[Au,OL,xz,adQ]
    rw[fin];rfl
   ·show _=(((0:Nat):Int),_++[]);rw[adP];rfl
   ·intro j hj;have e3:=lD g5 okf.o j ade;obtain⟨o1,o2,o3⟩:=Ow (fp (g5.at hj)) (okf.o j hj);simp only[cZ,hj,ads,adA,ak,o1,a9,aU (show j<9223372036854775807 by omega)];rw[aY (by simp only[ay,ado];omega)];simp only[oI,adQ];rfl
   ·simp only[ba];rfl
  ·simp only[ba,ao];rfl
 ·show _=(((0:Nat):Int),_++[]);rw[adP];rfl
 ·intro k hk;have d1:=lW h2 k ade;have d2:=(h2.at hk).1;have d3:=cS (a8 m.2.1 k).length;simp only[cZ,hk,ao,ads,adA,ak,El d2,a9,aU (show k<9223372036854775807 by omega)];rw[aY (by simp only[ay,ado,xz];omega)];simp only[kP,xz,adQ];rfl
 ·simp only[ba,ao];rfl
theorem V4 {m:aK} (hf:Fit bJ m) {n:Nat} (hn:3<n):Ql n m=some (iG m):=by
 unfold Ql iG;rw[Vt hf hn,a9]
 by_cases h:mI m=true
 ·rw[h,aC (c:=an true) rfl,Vu hf h,a9,adp rfl,aE]
  by_cases hb:20000<((Ji m).length:Int)
  ·rw[adp hb,aD (adm hb)]
  ·rw[adq hb,aC (adl hb)]
 ·have PN:mI m=false:=by simpa using h
  rw[PN];rfl
def p9 (m:aK) (pc:Nat):Bool:=decide (pc/256=0)||(decide (m.2.2.1.length<pc/256)||decide (((a8 m.2.2.1 (pc/256-1)).2.2.2.2.1.length:Int)<=((pc %256:Nat):Int)))
theorem UJ (n:Nat):Nat.land n 255=n %256:=Nat.and_two_pow_sub_one_eq_mod n 8
theorem MX {m:aK} (hf:Fit bJ m) {pc:Nat} (hp:pc<18446744073709551616):Yf m pc=some (if iG m=0 then(if p9 m pc=true then(0,0,6) else(((pc/256-1:Nat):Int),((pc %256:Nat):Int),0)) else(0,0,iG m)):=by
 have h3:=hf.2.2.1.len;unfold Yf;rw[GU hf,a9]
 by_cases h0:iG m=0
 ·rw[aC (cQ h0),adp h0];have s1:iV pc 8=pc/256:=T.ke _ _;have s2:fW pc 255=pc %256:=by rw[T.mV,UJ]
  rw[s1,s2,ky ade,gk ade,gk (show pc/256<9223372036854775808 by omega)];have ej:(af (aR (pc/256) 0) (λ_=>(some true)) λ_=>(af (eF m.2.2.1.length (pc/256)) (λ_=>(some true)) λ_=>(Iy m.2.2.1.length (eE 7 (pc/256) 1) (λv1=>(some (cB ((a8 m.2.2.1 v1).2.2.2.2.1.length:Int) ((pc %256:Nat):Int)))))))=some (p9 m pc):=by
   unfold p9
   by_cases k1:pc/256=0
   ·rw[aD (by rw[ax];exact adm k1),adm k1];rfl
   ·rw[aC (by rw[ax];exact adl k1),adl k1,Bool.false_or]
    by_cases k2:m.2.2.1.length<pc/256
    ·rw[aD (by rw[aW];exact adm k2),adm k2];rfl
    ·rw[aC (by rw[aW];exact adl k2),adl k2,Bool.false_or,rq ade ade,T.A1,adh,aN]
  rw[ej,join_some]
  by_cases hn:p9 m pc=true
  ·rw[adp hn,aD hn]
  ·have uh:p9 m pc=false:=by simpa using hn
   rw[adq hn,aC uh];unfold p9 at uh;simp only[ad',adj] at uh;rw[cD ade ade];refine congrArg some ?_;refine Prod.ext ?_ rfl;show((pc/256:Nat):Int)-1=_;omega
 ·rw[aD (bG h0),adq h0]
theorem ZH {m:aK} (h3:m.2.2.1.length<=5000) {pc:Nat} (hp:pc<18446744073709551616):f70 m pc=some (if p9 m pc=true then(0,0,false) else(((pc/256-1:Nat):Int),((pc %256:Nat):Int),true)):=by
 unfold f70;have e1:bF 7 (fg 3 256 (ab 3 m.2.2.1.length 1))=256*(m.2.2.1.length+1):=by
  rw[c8 ade ade,eh ade ade,show(256:Int)*((m.2.2.1.length:Int)+1)=((256*(m.2.2.1.length+1):Nat):Int) by omega,ky ade]
 rw[e1];have hle:((pc/256:Nat):Int)=(pc:Int)/256:=ade
 by_cases k:pc<256\/256*(m.2.2.1.length+1)<=pc
 ·have hn:p9 m pc=true:=by
   unfold p9;rcases k with k|k
   ·rw[adm (show pc/256=0 by omega)];rfl
   ·rw[adm (show m.2.2.1.length<pc/256 by omega)];simp
  rw[adp hn];have:(af (eF pc 256) (λ_=>(some true)) λ_=>(some (gf (256*(m.2.2.1.length+1)) pc)))=some true:=by
   simp only[ao,aE,aN,aG,aW,aZ,ax,bc,aA,bg,a9,au,join_some,join_none,ak,aI,aF,ay,aS,decide_eq_true_eq,Bool.not_eq_true',decide_eq_false_iff_not];grind
  rw[this,join_some];rfl
 ·have:(af (eF pc 256) (λ_=>(some true)) λ_=>(some (gf (256*(m.2.2.1.length+1)) pc)))=some false:=by
   simp only[ao,aE,aN,aG,aW,aZ,ax,bc,aA,bg,a9,au,join_some,join_none,ak,aI,aF,ay,aS,decide_eq_true_eq,Bool.not_eq_true',decide_eq_false_iff_not];grind
  have q1:wX pc 256=pc/256:=by rw[T.wY]
  have q2:eV pc 256=pc %256:=by rw[T.dR]
  have hb:pc/256-1<m.2.2.1.length:=ade;rw[this,join_some,aC rfl,T.e9,adi,T.e9,adi,q1,q2,gk ade,gk ade,cD ade ade,show((pc/256:Nat):Int)-1=((pc/256-1:Nat):Int) by omega,ak,adp hb];have e2:p9 m pc=decide (((a8 m.2.2.1 (pc/256-1)).2.2.2.2.1.length:Int)<=((pc %256:Nat):Int)):=by
   unfold p9;rw[adl (show¬pc/256=0 by omega),adl (show¬m.2.2.1.length<pc/256 by omega)];rfl
  rw[e2,ao,aN];split<;>rfl
def dV (x:aX):Int:=if x.1=25 then x.2.2.1 else if x.1=26\/x.1=27 then x.2.1 else-1
theorem Es (x:aX):IW x=some (dV x):=by
 unfold IW dV;simp only[ao,aE,aN,aG,aW,aZ,ax,bc,aA,bg,a9,au,join_some,join_none,ak,aI,aF,ay,aS,decide_eq_true_eq,Bool.not_eq_true',decide_eq_false_iff_not];grind
theorem MS (x:aX):MR x=some (dV x):=by
 unfold MR dV;simp only[ao,aE,aN,aG,aW,aZ,ax,bc,aA,bg,a9,au,join_some,join_none,ak,aI,aF,ay,aS,decide_eq_true_eq,Bool.not_eq_true',decide_eq_false_iff_not];grind
theorem So:∀c:Fin 35,(c.1=2->0<=(a8 (aM c.1).1 1).1)/\(c.1=25->0<=(a8 (aM c.1).1 1).1)/\(c.1=26\/c.1=27->0<=(a8 (aM c.1).1 0).1):=by decide+kernel
theorem KB {x:aX} (h:pP x=0):(x.1=2->0<=x.2.2.1)/\(x.1=25\/x.1=26\/x.1=27->0<=dV x):=by
 obtain⟨hc,d6⟩:=pQ h;obtain⟨s1,s2,s3⟩:=So ⟨x.1,hc⟩;have o0:=(d6 0 ade).1;have o1:=(d6 1 ade).1;have e0:a8 (opsL x) 0=x.2.1:=rfl;have e1:a8 (opsL x) 1=x.2.2.1:=rfl;rw[e0] at o0;rw[e1] at o1;refine⟨λhx=>Int.le_trans (s1 hx) o1,λhx=> ?_⟩;unfold dV;split
 ·rename_i h25;exact Int.le_trans (s2 h25) o1
 ·rename_i h25;have h2:x.1=26\/x.1=27:=ade;rw[adp h2];exact Int.le_trans (s3 h2) o0
def fA (m:aK) (f:bY) (x:aX):Bool:=(List.range ((gg x).1++(gg x).2).length).all (λi=> !decide ((f.2.2.2.1.length:Int)<=a8 ((gg x).1++(gg x).2) i))&&(decide (dV x<(m.2.2.1.length:Int))&&(!decide (x.1=2)||decide (x.2.2.1<(m.2.1.length:Int))))
theorem XU {x:aX} (h:pP x=0) {i:Nat} (hi:i<((gg x).1++(gg x).2).length):0<=a8 ((gg x).1++(gg x).2) i/\a8 ((gg x).1++(gg x).2) i<=15:=by
 have:a8 ((gg x).1++(gg x).2) i∈(gg x).1++(gg x).2:=by rw[bz hi];exact adT _
 exact mD h (adC.1 this)
theorem Er {l:List cy} {i:Int}:C9 l i=some (decide (0<=i)&&decide (i<(l.length:Int))):=by
 unfold C9;simp only[aN,aE,bX,join_some]
theorem W2 {l:List (List Nat)} {i:Int}:M3 l i=some (decide (0<=i)&&decide (i<(l.length:Int))):=by
 unfold M3;simp only[aN,aE,bX,join_some]
theorem VE {m:aK} {f:bY} {x:aX} (h:pP x=0):QJ (m,f,()) x=some (if fA m f x=true then 0 else 16):=by
 obtain⟨t1,t2⟩:=oz x;obtain⟨c1,c2⟩:=KB h;have eR:=λ{i} hi=>XU h (i:=i) hi
 unfold QJ fA;rw[Af h,a9,aC cE,aY (by rw[ay];show(gg x).1.length+(gg x).2.length<=_;omega)];show loop Int Unit Int (λv1=>(af (aO v1 (((gg x).1++(gg x).2).length:Int)) (λ_=>(ai ((gg x).1++(gg x).2).length v1 (λv2=>(bind (C9 f.2.2.2.1 (a8 ((gg x).1++(gg x).2) v2)) (λv3=>(af (an v3) (λ_=>(bT 16)) λ_=>(bh (ab 3 v1 1)))))))) λ_=>(lex ()))) 0 _ _=_;have hl:((gg x).1++(gg x).2).length<=6:=by rw[ado];omega
 generalize(gg x).1++(gg x).2=l at eR hl⊢;rw[bA l.length (λi=> !decide ((f.2.2.2.1.length:Int)<=a8 l i)) 16 () ade ?_ ?_]
 ·have e1:bind (IW x) (λv1=>(join Bool (af (cB m.2.2.1.length v1) (λ_=>(some true)) λ_=>(af (aR x.1 2) (λ_=>(bind (M3 m.2.1 x.2.2.1) (λv2=>(some (an v2))))) λ_=>(some false))) (λv2=>(af v2 (λ_=>(some (16:Int))) λ_=>(some 0)))))=some (if(decide (dV x<(m.2.2.1.length:Int))&&(!decide (x.1=2)||decide (x.2.2.1<(m.2.1.length:Int))))=true then 0 else 16):=by
   rw[Es,a9];simp only[W2,a9,aA,ax,aN,bX,bR,join_some,ao]
   by_cases k2:x.1=2
   ·have:=c1 k2;simp[k2,this];grind
   ·simp[k2];grind
  simp only[e1];cases(List.range l.length).all (λi=> !decide ((f.2.2.2.1.length:Int)<=a8 l i)) with
  |false=>rfl
  |true=>rw[adp rfl,adW]
 ·intro i hi;have:=(eR hi).1;simp only[cZ,hi,ao,ads,adA,ak,Er,a9,aA,bh,bT,aU (show i<9223372036854775807 by omega)];grind
 ·rw[ba];rfl
theorem Wd {m:aK} {i:Nat} (hi:i<m.2.2.1.length) {x:aX} (h:pP x=0):R7 m (i:Int) x=some (fA m (a8 m.2.2.1 i) x):=by
 obtain⟨t1,t2⟩:=oz x;unfold R7 fA;rw[Eo h,a9,aY (by rw[ay];omega),aY (by rw[ay];show(gg x).1.length+_<=_;omega)];show loop Int Unit Bool (λv1=>(af (aO v1 (((gg x).1++(gg x).2).length:Int)) (λ_=>(ai ((gg x).1++(gg x).2).length v1 (λv2=>(ai m.2.2.1.length (i:Int) (λv3=>(af (cB ((a8 m.2.2.1 v3).2.2.2.1.length:Int) (a8 ((gg x).1++(gg x).2) v2)) (λ_=>(bT false)) λ_=>(bh (ab 3 v1 1)))))))) λ_=>(lex ()))) 0 _ _=_;have hl:((gg x).1++(gg x).2).length<=6:=by rw[ado];omega
 generalize(gg x).1++(gg x).2=l at hl⊢;rw[bA l.length (λj=> !decide (((a8 m.2.2.1 i).2.2.2.1.length:Int)<=a8 l j)) false () ade ?_ ?_]
 ·refine qK ?_ rfl;rw[MS,a9];simp only[aA,ax,aE,bX,bR,join_some]
 ·intro j hj;simp only[cZ,hj,hi,ao,ads,adA,ak,aN,bh,bT,aU (show j<9223372036854775807 by omega)];grind
 ·rw[ba];rfl
def bO (f:bY) (s:Int):Int:=if 0<=s/\s<(f.2.2.2.1.length:Int) then(a8 f.2.2.2.1 s.toNat).2.1 else-1
theorem Ah {m:aK} {f:bY} {s:Int}:Et (m,f,()) s=some (bO f s):=by
 unfold Et bO;show bind (C9 f.2.2.2.1 s) (λv0=>(af (an v0) (λ_=>(some (-1))) λ_=>(ai f.2.2.2.1.length s (λv1=>(some (a8 f.2.2.2.1 v1).2.1)))))=_;rw[Er,a9]
 by_cases h:0<=s/\s<(f.2.2.2.1.length:Int)
 ·rw[adp h,aC (by rw[adm h.1,adm h.2];rfl),bE h.1 h.2]
 ·rw[adq h,aD];rw[aA];simp only[Bool.not_and];grind
theorem Am {m:aK} {i:Nat} (hi:i<m.2.2.1.length) {s:Int}:EI m (i:Int) s=some (bO (a8 m.2.2.1 i) s):=by
 unfold EI bO;simp only[ak,hi,adA,bR,join_some,aE,aN]
 by_cases h:0<=s/\s<((a8 m.2.2.1 i).2.2.2.1.length:Int)
 ·rw[adp h,aC,bE h.1 h.2];simp only[ad',adj];omega
 ·rw[adq h,aD];simp only[aec,adk];omega
theorem kf {n:Int} {f:bY} (ok:yn n f) (hn:0<=n) (s:Int): -1<=bO f s/\bO f s<n:=by
 unfold bO;split
 ·rename_i h;have:=ok.d s.toNat ade;omega
 ·omega
def bV (m:aK) (t:Int):Nat:=if t<0 then 0 else(a8 m.1 t.toNat).1
theorem vI {m:aK} {t:Int} (ht:t<(m.1.length:Int)):Cd m t=some (bV m t):=by
 unfold Cd bV
 by_cases h:t<0
 ·rw[adp h,aD (by rw[aE];exact adm h)]
 ·rw[adq h,aC (by rw[aE];exact adl h),bE ade ht]
theorem E9 (t:aT):L6 t=some (decide (t.1=1)||(decide (t.1=2)||decide (t.1=4))):=by
 unfold L6;simp only[ax,bR,join_some]
def vo (ks:List Nat) (k:Nat):Bool:= !(List.range ks.length).all λi=> !decide (k=a8 ks i)
theorem Wj {ks:List Nat} (hk:ks.length<=1000) (k:Nat):R9 ks k=some (vo ks k):=by
 unfold R9 Wr vo;obtain⟨j,hj⟩:=lL (E:=Unit) (ρ:=Int) (f:=λv0=>(af (aO v0 ks.length) (λ_=>(ai ks.length v0 (λv1=>(af (aR k (a8 ks v1)) (λ_=>(bT v0)) λ_=>(bh (ab 3 v0 1)))))) λ_=>(lex ()))) (kx:=λ_=>(some (-1))) (kr:=λv0=>(some v0)) ks.length (λi=> !decide (k=a8 ks i)) () ade (λi hi=>by
  simp only[cZ,hi,ao,ads,adA,ak,ax,bh,bT,aU (show i<9223372036854775807 by omega)];grind) (by rw[ba];rfl)
 rw[hj];cases(List.range ks.length).all (λi=> !decide (k=a8 ks i)) with
 |true=>
  rw[adp rfl,a9];rw[aN];rfl
 |false=>
  rw[adq (by decide),a9,aN,adf];rfl
theorem ss {m:aK} {f:bY} {t:Int} (ht:t<(m.1.length:Int)) {ks:List Nat} (hk:ks.length<=1000) (h0:vo ks 0=false):gr (m,f,()) t ks=some (vo ks (bV m t)):=by
 unfold gr bV;simp only[aN]
 by_cases h:t<0
 ·rw[adp h,aC adg,join_some,h0]
 ·rw[adq h,aD adf,bE ade ht,Wj hk];rfl
theorem s9 (a k:Nat):vo [a] k=decide (k=a):=by
 show(!(List.all [0] λi=> !decide (k=a8 [a] i)))=_;have e0:a8 [a] 0=a:=rfl;simp[e0]
theorem UN (a b k:Nat):vo [a,b] k=(decide (k=a)||decide (k=b)):=by
 show(!(List.all [0,1] λi=> !decide (k=a8 [a,b] i)))=_;have e0:a8 [a,b] 0=a:=rfl;have e1:a8 [a,b] 1=b:=rfl;simp[e0,e1]
theorem Io (a b c k:Nat):vo [a,b,c] k=(decide (k=a)||(decide (k=b)||decide (k=c))):=by
 show(!(List.all [0,1,2] λi=> !decide (k=a8 [a,b,c] i)))=_;have e0:a8 [a,b,c] 0=a:=rfl;have e1:a8 [a,b,c] 1=b:=rfl;have e2:a8 [a,b,c] 2=c:=rfl;simp[e0,e1,e2]
theorem Fk (p:Nat->Bool) (v:Nat->Int):∀{n i:Nat},i<n->p i=true->0<=v i->v i∈pk p v n
 |n+1,i,hi,hp,hv=>by
  unfold pk
  by_cases e:i=n
  ·subst e;rw[adp ⟨hp,hv⟩];exact adC.2 (Or.inr (adF.2 rfl))
  ·have:=Fk p v (n:=n) (i:=i) ade hp hv;split
   ·exact adC.2 (Or.inl this)
   ·exact this
theorem oi {m:aK} {f:bY} {x:aX} (hn:fA m f x=true) {i:Nat} (hi:i<3) (hp:JI (aM x.1).1 i=true\/J' (aM x.1).1 i=true) (hv:0<=a8 (opsL x) i):a8 (opsL x) i<(f.2.2.2.1.length:Int):=by
 have hm:a8 (opsL x) i∈(gg x).1++(gg x).2:=by
  rcases hp with hp|hp
  ·exact adC.2 (Or.inl (Fk _ (a8 (opsL x)) hi hp hv))
  ·exact adC.2 (Or.inr (Fk _ (a8 (opsL x)) hi hp hv))
 unfold fA at hn;rw[adr,adE] at hn;obtain⟨j,hj,hje⟩:=List.getElem_of_mem hm;have:=hn.1 j (adL.2 hj);rw[bz hj,hje,adn,adj] at this;omega
theorem uY {n:Int} {f:bY} (ok:yn n f) {s:Int} (h0:0<=s) (h1:s<(f.2.2.2.1.length:Int)):0<=bO f s:=by
 unfold bO;rw[adp ⟨h0,h1⟩];exact(ok.d s.toNat ade).1
theorem Sp:∀c:Fin 35,((c.1=13\/c.1=16\/c.1=19)->(JI (aM c.1).1 0=true\/J' (aM c.1).1 0=true)/\0<=(a8 (aM c.1).1 0).1)/\
 ((c.1=11\/c.1=17)->(JI (aM c.1).1 1=true\/J' (aM c.1).1 1=true)/\0<=(a8 (aM c.1).1 1).1)/\
 ((c.1=14\/c.1=20)->(JI (aM c.1).1 2=true\/J' (aM c.1).1 2=true)/\0<=(a8 (aM c.1).1 2).1)/\
 ((c.1=25\/c.1=34)-> -1<=(a8 (aM c.1).1 0).1):=by decide+kernel
structure a7o (m:aK) (f:bY) (x:aX):Prop where
 a:x.1=13\/x.1=16\/x.1=19->0<=bO f x.2.1
 b:x.1=11\/x.1=17->0<=bO f x.2.2.1
 c:x.1=14\/x.1=20->0<=bO f x.2.2.2.1
 d:x.1=25\/x.1=34-> -1<=x.2.1
 e:x.1=25->0<=x.2.2.1/\x.2.2.1<m.2.2.1.length
 g:x.1=26\/x.1=27->0<=x.2.1/\x.2.1<m.2.2.1.length
theorem Uv {m:aK} {f:bY} {x:aX} (ok:yn m.1.length f) (h:pP x=0) (hn:fA m f x=true):a7o m f x:=by
 obtain⟨hc,d6⟩:=pQ h;obtain⟨s1,s2,s3,s4⟩:=Sp ⟨x.1,hc⟩;have o0:=(d6 0 ade).1;have o1:=(d6 1 ade).1;have o2:=(d6 2 ade).1;obtain⟨-,c2⟩:=KB h;have nn:dV x<(m.2.2.1.length:Int):=by
  unfold fA at hn;simp only[adr,adk] at hn;exact hn.2.1
 refine⟨λhx=> ?_,λhx=> ?_,λhx=> ?_,λhx=>Int.le_trans (s4 hx) o0,λhx=> ?_,λhx=> ?_⟩
 ·have:=s1 hx;exact uY ok (Int.le_trans this.2 o0) (oi hn (i:=0) ade this.1 (Int.le_trans this.2 o0))
 ·have:=s2 hx;exact uY ok (Int.le_trans this.2 o1) (oi hn (i:=1) ade this.1 (Int.le_trans this.2 o1))
 ·have:=s3 hx;exact uY ok (Int.le_trans this.2 o2) (oi hn (i:=2) ade this.1 (Int.le_trans this.2 o2))
 ·have h1:=c2 (Or.inl hx);unfold dV at h1 nn;rw[adp hx] at h1 nn;exact⟨h1,nn⟩
 ·have h1:=c2 (Or.inr hx);unfold dV at h1 nn;rw[adi,adp hx] at h1 nn;exact⟨h1,nn⟩
def Jx (m:aK) (t i o:Int):Bool:=decide (bV m t=5)&&(decide (0<=i)&&(decide (i<((a8 m.1 t.toNat).2.2.2.1.length:Int))&&decide ((a8 (a8 m.1 t.toNat).2.2.2.1 i.toNat).2.1=o)))
theorem qL {m:aK} {t:Int} {k:Nat} (h:bV m t=k) (hk:k≠0):0<=t:=by
 unfold bV at h;split at h
 ·omega
 ·omega
theorem M5 {m:aK} {f:bY} {t i o:Int} (ht:t<(m.1.length:Int)):M4 (m,f,()) t i o=some (Jx m t i o):=by
 unfold M4 Jx;rw[ss ht (by decide) (by rw[s9];decide),a9,s9]
 by_cases hk:bV m t=5
 ·have h0:=qL hk (by decide);rw[adm hk,aD rfl,bE h0 ht,Er,a9]
  by_cases h1:0<=i/\i<((a8 m.1 t.toNat).2.2.2.1.length:Int)
  ·rw[adm h1.1,adm h1.2,aD (c:=true&&true) rfl,bE h0 ht,bE h1.1 h1.2,aG];rfl
  ·have:(decide (0<=i)&&decide (i<((a8 m.1 t.toNat).2.2.2.1.length:Int)))=false:=by
    rw[ae6,adj,adj];omega
   rw[this,aC rfl,join_some,adW,<-Bool.and_assoc,this];rfl
 ·rw[adl hk];rfl
theorem MU {m:aK} {t i o:Int} (ht:t<(m.1.length:Int)) (ho:0<=o):bind (MT m t i) (λv=>some (bm v o))=some (Jx m t i o):=by
 unfold MT Jx;rw[vI ht,a9];have hm1:bm (-1) o=false:=by rw[aG];exact adg
 by_cases hk:bV m t=5
 ·have h0:=qL hk (by decide);rw[aC (by rw[hk,ax];rfl),adm hk,adW]
  by_cases h1:0<=i/\i<((a8 m.1 t.toNat).2.2.2.1.length:Int)
  ·rw[aC (by rw[aE];exact adg),bE h0 ht,join_some,aC (by rw[aN];exact adg),bE h0 ht,bE h1.1 h1.2,a9,adm h1.1,adm h1.2,aG];rfl
  ·have h2:(decide (0<=i)&&decide (i<((a8 m.1 t.toNat).2.2.2.1.length:Int)))=false:=by
    rw[ae6,adj,adj];omega
   have h3:(af (aO i 0) (λ_=>some true) λ_=>(ai m.1.length t (λv1=>(some (cB ((a8 m.1 v1).2.2.2.1.length:Int) i)))))=some true:=by
    rw[bE h0 ht,bR,aE,aN];refine congrArg some ?_;rw[aec,adk,adk];omega
   rw[h3,join_some,aD rfl,a9,hm1,<-Bool.and_assoc,h2];rfl
 ·rw[aD (by rw[aA,ax,adl hk];rfl),join_some,aD rfl,a9,hm1,adl hk];rfl
def tz (m:aK) (t:Int):Int:=(a8 m.1 t.toNat).2.1
theorem Ai {m:aK} {f:bY} {t o:Int} (ht:t<(m.1.length:Int)) {ks:List Nat} (hk:ks.length<=1000) (h0:vo ks 0=false):Eu (m,f,()) t o ks=some (vo ks (bV m t)&&decide (tz m t=o)):=by
 unfold Eu tz;rw[ss ht hk h0,a9]
 by_cases ha:vo ks (bV m t)=true
 ·have h1:0<=t:=by
   by_cases h1:0<=t
   ·exact h1
   ·have:bV m t=0:=by unfold bV;rw[adh]
    rw[this,h0] at ha;cases ha
  rw[ha,aD rfl,bE h1 ht,aG];rfl
 ·have:vo ks (bV m t)=false:=by simpa using ha
  rw[this];rfl
theorem An {m:aK} {t o:Int} {a b:Nat} (ha:a≠0) (hb:b≠0) (ht:t<(m.1.length:Int)) (ho:0<=o):∃v,EJ m t a b=some v/\decide (v=o)=((decide (bV m t=a)||decide (bV m t=b))&&decide (tz m t=o)):=by
 unfold EJ tz;rw[vI ht,a9]
 by_cases hc:bV m t=a\/bV m t=b
 ·have h0:0<=t:=by
   rcases hc with hc|hc
   ·exact qL hc ha
   ·exact qL hc hb
  refine⟨(a8 m.1 t.toNat).2.1,?_,?_⟩
  ·rw[aC (by rw[aE];exact adg),bX,join_some,aC,bE h0 ht];rw[aA,aA,ax,ax];rcases hc with hc|hc
   ·rw[adm hc];rfl
   ·rw[adm hc];simp
  ·have:(decide (bV m t=a)||decide (bV m t=b))=true:=by simpa using hc
   rw[this,adW]
 ·rw[not_or] at hc;refine⟨-1,?_,?_⟩
  ·rw[bX,bR,join_some,aD];rw[aA,aA,ax,ax,adl hc.1,adl hc.2];simp
  ·rw[adl hc.1,adl hc.2,adg];rfl
def DF (k:Nat):Bool:=decide (k=1)||(decide (k=2)||decide (k=4))
def sI (m:aK) (g:bY):Bool:=decide (g.2.2.1<0)&&(decide (g.2.1=0)||(decide (g.2.1=1)&&DF (bV m (a8 g.2.2.2.1 0).2.1)))
theorem M6 {m:aK} {f g:bY} (ok:yn m.1.length g):R1 (m,f,()) g=some (sI m g):=by
 unfold R1 sI;have hp:=ok.p
 by_cases h1:g.2.1=1
 ·have h0:=ok.d 0 ade;rw[fX _ ade,ss h0.2 (by decide) (by rw[Io];decide),a9,Io];simp only[bX,bR,join_some,aE,aG,DF]
 ·rw[show bm g.2.1 1=false by rw[aG];exact adl h1,aC rfl,adl h1];simp[bX,bR,join_some,aE,aG]
theorem Td {m:aK} {i:Int} (h0:0<=i) (h1:i<(m.2.2.1.length:Int)) (ok:yn m.1.length (a8 m.2.2.1 i.toNat)):Wx m i=some (sI m (a8 m.2.2.1 i.toNat)):=by
 unfold Wx sI;rw[bE h0 h1];generalize a8 m.2.2.1 i.toNat=g at ok⊢;have hp:=ok.p;have hr:=ok.r;have er:bm g.2.2.1 (-1)=decide (g.2.2.1<0):=by rw[aG];congr 1;rw[eq_iff_iff];omega
 rw[er]
 by_cases h1:g.2.1=1
 ·have h0:=ok.d 0 ade;rw[fX _ ade,bE h0.1 h0.2,E9,a9];have ek:bV m (a8 g.2.2.2.1 0).2.1=(a8 m.1 (a8 g.2.2.2.1 0).2.1.toNat).1:=by unfold bV;rw[adi]
  rw[ek];simp only[bX,bR,join_some,aG,DF]
 ·rw[show bm g.2.1 1=false by rw[aG];exact adl h1,aC rfl,adl h1];simp[bX,bR,join_some,aG]
end Go.Proofs.YtbjcjppphoppfaaGreat.M
