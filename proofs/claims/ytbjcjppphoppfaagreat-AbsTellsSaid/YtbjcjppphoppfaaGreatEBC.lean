import Derived.Test.YtbjcjppphoppfaaGreatEBB
set_option linter.all false
namespace Go.Proofs.YtbjcjppphoppfaaGreat.M
open Go.Proofs.YtbjcjppphoppfaaGreat.T hiding a8 ae av aH aw bd bM cC
theorem Hr {m:aK} {f:bY} {ρ:Type} (l:List Int) (hl:l.length<=100) (fe:∀j,j<l.length->a8 l j<(m.1.length:Int)) (kx:Unit->Option ρ) (kr:Int->Option ρ):
 ∃j:Nat,(loop Int Unit Int (λv4=>(af (aO v4 l.length) (λ_=>(ai l.length v4 (λv5=>(bind (gr (m,f,()) (a8 l v5) [2]) (λv6=>(af (an v6) (λ_=>(bT v4)) λ_=>(bh (ab 3 v4 1)))))))) λ_=>(lex ()))) 0 kx kr)=if(List.range l.length).all (λj=>decide (bV m (a8 l j)=2))=true then kx () else kr (j:Int):=by
 refine lL l.length (λj=>decide (bV m (a8 l j)=2)) () ade (λi hi=> ?_) ?_
 ·simp only[cZ,hi,ao,ads,adA,ak,ss (fe i hi) (show[2].length<=1000 by decide) (by rw[s9];decide),s9,a9,aA,bh,bT,aU (show i<9223372036854775807 by omega)];grind
 ·rw[ba];rfl
theorem AJ {A:Bool} {j:Nat}:(if A=true then some (an (cB 0 (-1))) else some (an (cB 0 (j:Int))))=some A:=by
 have l1:cB 0 (-1)=false:=by rw[aN];rfl
 have l2:cB 0 (j:Int)=true:=by rw[aN];exact adf
 rw[l1,l2];cases A<;>rfl
theorem Xr {m:aK} {f:bY} {a:Int} (ha:a<(m.1.length:Int)):(loop Int Unit Int (λv4=>(af (aO v4 (1:Int)) (λ_=>(ai 1 v4 (λv5=>(bind (gr (m,f,()) (a8 [a] v5) [2]) (λv6=>(af (an v6) (λ_=>(bT v4)) λ_=>(bh (ab 3 v4 1)))))))) λ_=>(lex ()))) 0 (λ_=>(some (an (cB 0 (-1))))) (λv4=>(some (an (cB 0 v4)))))=some (decide (bV m a=2)):=by
 obtain⟨j,hj⟩:=Hr (f:=f) [a] (by simp) (λj hj=>by
  have:j=0:=by simpa using hj
  subst this;exact ha) (λ_=>(some (an (cB 0 (-1))))) (λv4=>(some (an (cB 0 v4))))
 refine hj.trans (AJ.trans ?_);have e0:a8 [a] 0=a:=rfl;show some (List.all [0] _)=_;simp[e0]
theorem a8r {m:aK} {f:bY} {a b:Int} (ha:a<(m.1.length:Int)) (hb:b<(m.1.length:Int)):(loop Int Unit Int (λv4=>(af (aO v4 (2:Int)) (λ_=>(ai 2 v4 (λv5=>(bind (gr (m,f,()) (a8 [a,b] v5) [2]) (λv6=>(af (an v6) (λ_=>(bT v4)) λ_=>(bh (ab 3 v4 1)))))))) λ_=>(lex ()))) 0 (λ_=>(some (an (cB 0 (-1))))) (λv4=>(some (an (cB 0 v4)))))=some (decide (bV m a=2)&&decide (bV m b=2)):=by
 obtain⟨j,hj⟩:=Hr (f:=f) [a,b] (by simp) (λj hj=>by
  have:j=0\/j=1:=by simp at hj;omega
  rcases this with rfl|rfl
  ·exact ha
  ·exact hb) (λ_=>(some (an (cB 0 (-1))))) (λv4=>(some (an (cB 0 v4))))
 refine hj.trans (AJ.trans ?_);have e0:a8 [a,b] 0=a:=rfl;have e1:a8 [a,b] 1=b:=rfl;show some (List.all [0,1] _)=_;simp[e0,e1]
theorem a8s {m:aK} {f:bY} {a b c:Int} (ha:a<(m.1.length:Int)) (hb:b<(m.1.length:Int)) (hc:c<(m.1.length:Int)):(loop Int Unit Int (λv4=>(af (aO v4 (3:Int)) (λ_=>(ai 3 v4 (λv5=>(bind (gr (m,f,()) (a8 [a,b,c] v5) [2]) (λv6=>(af (an v6) (λ_=>(bT v4)) λ_=>(bh (ab 3 v4 1)))))))) λ_=>(lex ()))) 0 (λ_=>(some (an (cB 0 (-1))))) (λv4=>(some (an (cB 0 v4)))))=some (decide (bV m a=2)&&(decide (bV m b=2)&&decide (bV m c=2))):=by
 obtain⟨j,hj⟩:=Hr (f:=f) [a,b,c] (by simp) (λj hj=>by
  have:j=0\/j=1\/j=2:=by simp at hj;omega
  rcases this with rfl|rfl|rfl
  ·exact ha
  ·exact hb
  ·exact hc) (λ_=>(some (an (cB 0 (-1))))) (λv4=>(some (an (cB 0 v4))))
 refine hj.trans (AJ.trans ?_);have e0:a8 [a,b,c] 0=a:=rfl;have e1:a8 [a,b,c] 1=b:=rfl;have e2:a8 [a,b,c] 2=c:=rfl;show some (List.all [0,1,2] _)=_;simp[e0,e1,e2]
theorem a0I {m:aK} {f:bY} {a:Int} (ha:a<(m.1.length:Int)) (b:Bool):(loop Int Unit Int (λv4=>(af (aO v4 (1:Int)) (λ_=>(ai 1 v4 (λv5=>(bind (gr (m,f,()) (a8 [a] v5) [2]) (λv6=>(af (an v6) (λ_=>(bT v4)) λ_=>(bh (ab 3 v4 1)))))))) λ_=>(lex ()))) 0 (λ_=>(some (an (cB 0 (-1))&&b))) (λv4=>(some (an (cB 0 v4)&&b))))=some (decide (bV m a=2)&&b):=by
 obtain⟨j,hj⟩:=Hr (f:=f) [a] (by simp) (λj hj=>by
  have:j=0:=by simpa using hj
  subst this;exact ha) (λ_=>(some (an (cB 0 (-1))&&b))) (λv4=>(some (an (cB 0 v4)&&b)))
 refine hj.trans ?_;have e0:a8 [a] 0=a:=rfl;have l1:cB 0 (-1)=false:=by rw[aN];rfl
 have l2:cB 0 (j:Int)=true:=by rw[aN];exact adf
 show(if List.all [0] _=true then _ else _)=_;rw[l1,l2]
 by_cases h:bV m a=2<;>simp[e0,h,aA,ao]
def XX (m:aK) (f:bY) (x:aX):Bool:=match x.1 with
 |1=>decide (bV m (bO f x.2.1)=2)
 |32=>decide (bV m (bO f x.2.1)=2)
 |2=>decide (bV m (bO f x.2.1)=3)
 |3=>decide (bV m (bO f x.2.1)=1)
 |23=>decide (bV m (bO f x.2.1)=1)
 |5=>decide (bO f x.2.1=bO f x.2.2.1)
 |6=>decide (bV m (bO f x.2.1)=2)&&(decide (bV m (bO f x.2.2.1)=2)&&decide (bV m (bO f x.2.2.2.1)=2))
 |7=>decide (bV m (bO f x.2.1)=2)&&(decide (bV m (bO f x.2.2.1)=2)&&decide (bV m (bO f x.2.2.2.1)=2))
 |8=>decide (bV m (bO f x.2.1)=2)&&(decide (bV m (bO f x.2.2.1)=2)&&decide (bV m (bO f x.2.2.2.1)=2))
 |9=>decide (bV m (bO f x.2.1)=2)&&(decide (bV m (bO f x.2.2.1)=2)&&decide (bV m (bO f x.2.2.2.1)=2))
 |10=>decide (bV m (bO f x.2.1)=1)&&(decide (bV m (bO f x.2.2.1)=2)&&decide (bV m (bO f x.2.2.2.1)=2))
 |11=>decide (bV m (bO f x.2.1)=1)&&(decide (bO f x.2.2.1=bO f x.2.2.2.1)&&DF (bV m (bO f x.2.2.1)))
 |12=>decide (bV m (bO f x.2.1)=1)&&decide (bV m (bO f x.2.2.1)=1)
 |13=>Jx m (bO f x.2.2.1) x.2.2.2.1 (bO f x.2.1)
 |14=>Jx m (bO f x.2.1) x.2.2.1 (bO f x.2.2.2.1)
 |15=>decide (bV m (bO f x.2.1)=4)
 |16=>decide (bV m (bO f x.2.2.1)=4)&&decide (tz m (bO f x.2.2.1)=bO f x.2.1)
 |17=>decide (bV m (bO f x.2.1)=4)&&decide (tz m (bO f x.2.1)=bO f x.2.2.1)
 |18=>decide (bV m (bO f x.2.1)=7)&&decide (bV m (bO f x.2.2.1)=2)
 |19=>((decide (bV m (bO f x.2.2.1)=7)||decide (bV m (bO f x.2.2.1)=6))&&decide (tz m (bO f x.2.2.1)=bO f x.2.1))&&decide (bV m (bO f x.2.2.2.1)=2)
 |20=>((decide (bV m (bO f x.2.1)=7)||decide (bV m (bO f x.2.1)=6))&&decide (tz m (bO f x.2.1)=bO f x.2.2.2.1))&&decide (bV m (bO f x.2.2.1)=2)
 |21=>decide (bV m (bO f x.2.1)=2)&&(decide (bV m (bO f x.2.2.1)=3)||(decide (bV m (bO f x.2.2.1)=7)||decide (bV m (bO f x.2.2.1)=6)))
 |25=>decide (x.2.1<0)||decide ((a8 m.2.2.1 x.2.2.1.toNat).2.2.1=bO f x.2.1)
 |26=>sI m (a8 m.2.2.1 x.2.1.toNat)
 |27=>sI m (a8 m.2.2.1 x.2.1.toNat)
 |28=>decide (bV m (bO f x.2.1)=2)||(decide (bV m (bO f x.2.1)=1)||decide (bV m (bO f x.2.1)=3))
 |29=>decide (bV m (bO f x.2.1)=1)&&decide (bV m (bO f x.2.2.1)=2)
 |33=>decide (bV m (bO f x.2.1)=1)&&decide (bV m (bO f x.2.2.1)=2)
 |34=>decide (x.2.1<0)||decide (f.2.2.1=bO f x.2.1)
 |_=>true
theorem a30 {op:Nat} (h:op<35):op=0\/op=1\/op=2\/op=3\/op=4\/op=5\/op=6\/op=7\/op=8\/op=9\/op=10\/op=11\/op=12\/op=13\/op=14\/op=15\/op=16\/op=17\/op=18\/op=19\/op=20\/op=21\/op=22\/op=23\/op=24\/op=25\/op=26\/op=27\/op=28\/op=29\/op=30\/op=31\/op=32\/op=33\/op=34:=ade
theorem VF {m:aK} {f:bY} {x:aX} (ok:yn m.1.length f) (hm:oD m) (h:pP x=0) (hn:fA m f x=true):QK (m,f,()) x=some (XX m f x):=by
 have hc:=(pQ h).1;have ty:=Uv ok h hn;have sa:=(kf ok ade x.2.1).2;have sb:=(kf ok ade x.2.2.1).2;have sc:=(kf ok ade x.2.2.2.1).2;unfold QK;rw[Ah,a9,Ah,a9,Ah,a9];obtain⟨op,A,B,C,u⟩:=x;dsimp only at hc ty sa sb sc⊢;have ka:=λks h1 h2=>ss (f:=f) sa (ks:=ks) h1 h2
 have kb:=λks h1 h2=>ss (f:=f) sb (ks:=ks) h1 h2
 have a1:=ka [1] (by decide) (by rw[s9];decide);have a3:=ka [3] (by decide) (by rw[s9];decide);have a4:=ka [4] (by decide) (by rw[s9];decide);have a7:=ka [7] (by decide) (by rw[s9];decide);have a213:=ka [2,1,3] (by decide) (by rw[Io];decide);have b1:=kb [1] (by decide) (by rw[s9];decide);have b214:=kb [2,1,4] (by decide) (by rw[Io];decide);have b376:=kb [3,7,6] (by decide) (by rw[Io];decide);have ea4:=λo=>Ai (f:=f) (o:=o) sa (ks:=[4]) (by decide) (by rw[s9];decide)
 have eb4:=λo=>Ai (f:=f) (o:=o) sb (ks:=[4]) (by decide) (by rw[s9];decide)
 have ea76:=λo=>Ai (f:=f) (o:=o) sa (ks:=[7,6]) (by decide) (by rw[UN];decide)
 have eb76:=λo=>Ai (f:=f) (o:=o) sb (ks:=[7,6]) (by decide) (by rw[UN];decide)
 rw[s9] at a1 a3 a4 a7 b1;rw[Io] at a213 b214 b376;have cT:∀{ρ:Type} (a b:Unit->Option ρ),T.af true a b=a ():=λ_ _=>rfl
 have cF:∀{ρ:Type} (a b:Unit->Option ρ),T.af false a b=b ():=λ_ _=>rfl
 unfold XX;dsimp only;rcases a30 hc with rfl|rfl|rfl|rfl|rfl|rfl|rfl|rfl|rfl|rfl|rfl|rfl|rfl|rfl|rfl|rfl|rfl|rfl|rfl|rfl|rfl|rfl|rfl|rfl|rfl|rfl|rfl|rfl|rfl|rfl|rfl|rfl|rfl|rfl|rfl
 all_goals simp only[ax,Nat.reduceEqDiff,ads,decide_false,cT,cF,join_some,a9,Xr sa,Xr sb,Xr sc,a8r sb sc,a8s sa sb sc,a1,a3,a4,a7,a213,b1,b214,b376,ea4,eb4,ea76,eb76,s9,UN,M5 sa,M5 sb,a0I sa,aG,bX,bR]
 ·unfold DF;generalize decide (bV m (bO f B)=1)=p;generalize decide (bV m (bO f B)=2)=q;cases p<;>cases q<;>rfl
 ·obtain⟨e1,e2⟩:=ty.e rfl;rw[bE e1 e2,aE,bR,join_some]
 ·obtain⟨e1,e2⟩:=ty.g (Or.inl rfl);rw[bE e1 e2,M6 (hm.g _ ade),a9]
 ·obtain⟨e1,e2⟩:=ty.g (Or.inr rfl);rw[bE e1 e2,M6 (hm.g _ ade),a9]
 ·rw[aE]
theorem We {m:aK} {i:Nat} (hi:i<m.2.2.1.length) {x:aX} (hm:oD m) (h:pP x=0) (hn:fA m (a8 m.2.2.1 i) x=true):R8 m (i:Int) x=some (XX m (a8 m.2.2.1 i) x):=by
 have hc:=(pQ h).1;have ok:=hm.g i hi;have ty:=Uv ok h hn;unfold R8;rw[Am hi,a9,Am hi,a9,Am hi,a9];have ea:bm (a8 m.2.2.1 i).2.2.1 (bO (a8 m.2.2.1 i) x.2.1)=bm (a8 m.2.2.1 i).2.2.1 (bO (a8 m.2.2.1 i) x.2.1):=rfl;rw[ak,adp hi];generalize a8 m.2.2.1 i=f at ok ty hn⊢;have sa:=(kf ok ade x.2.1).2;have sb:=(kf ok ade x.2.2.1).2;have sc:=(kf ok ade x.2.2.2.1).2;rw[vI sa,vI sb,vI sc,a9,a9,a9];obtain⟨op,A,B,C,u⟩:=x;dsimp only at hc ty sa sb sc⊢;have em:A= -1\/¬A= -1:=ade;have cT:∀{ρ:Type} (a b:Unit->Option ρ),T.af true a b=a ():=λ_ _=>rfl
 have cF:∀{ρ:Type} (a b:Unit->Option ρ),T.af false a b=b ():=λ_ _=>rfl
 unfold XX;dsimp only;rcases a30 hc with rfl|rfl|rfl|rfl|rfl|rfl|rfl|rfl|rfl|rfl|rfl|rfl|rfl|rfl|rfl|rfl|rfl|rfl|rfl|rfl|rfl|rfl|rfl|rfl|rfl|rfl|rfl|rfl|rfl|rfl|rfl|rfl|rfl|rfl|rfl
 all_goals simp only[ax,Nat.reduceEqDiff,ads,decide_false,cT,cF,join_some,a9,E9,aG,bX,bR]
 ·have hb:=ty.b (Or.inl rfl);dsimp only at hb;rw[bE hb sb];have ek:bV m (bO f B)=(a8 m.1 (bO f B).toNat).1:=by unfold bV;rw[adi]
  rw[ek,bX,bX,join_some];rfl
 ·have:=MU (i:=C) sb (ty.a (Or.inl rfl));simp only[aG] at this;exact this
 ·have:=MU (i:=B) sa (ty.c (Or.inl rfl));simp only[aG] at this;exact this
 ·obtain⟨v,h1,h2⟩:=An (a:=4) (b:=4) (by decide) (by decide) sb (ty.a (Or.inr (Or.inl rfl)));rw[h1,a9];refine congrArg some (h2.trans ?_);rw[Bool.or_self]
 ·obtain⟨v,h1,h2⟩:=An (a:=4) (b:=4) (by decide) (by decide) sa (ty.b (Or.inr rfl));rw[h1,a9];refine congrArg some (h2.trans ?_);rw[Bool.or_self]
 ·obtain⟨v,h1,h2⟩:=An (a:=7) (b:=6) (by decide) (by decide) sb (ty.a (Or.inr (Or.inr rfl)));dsimp only at h2;rw[h1,a9,join_some,h2]
 ·obtain⟨v,h1,h2⟩:=An (a:=7) (b:=6) (by decide) (by decide) sa (ty.c (Or.inr rfl));dsimp only at h2;rw[h1,a9,join_some,h2]
 ·obtain⟨e1,e2⟩:=ty.e rfl;have e3:=ty.d (Or.inl rfl);dsimp only at e1 e2 e3;rw[bE e1 e2,bR,join_some];refine congrArg some ?_;congr 1;rw[ae8,adk,adk];omega
 ·obtain⟨e1,e2⟩:=ty.g (Or.inl rfl);dsimp only at e1 e2;rw[Td e1 e2 (hm.g _ ade),a9]
 ·obtain⟨e1,e2⟩:=ty.g (Or.inr rfl);dsimp only at e1 e2;rw[Td e1 e2 (hm.g _ ade),a9]
 ·have e3:=ty.d (Or.inr rfl);dsimp only at e3;refine congrArg some ?_;congr 1;rw[ae8,adk,adk];omega
theorem all_eq {l k:List Int} (h:l.length=k.length):((List.range l.length).all λi=>decide (a8 l i=a8 k i))=decide (l=k):=by
 rw[ae8,adE,adk];constructor
 ·intro H;apply List.ext_getElem h;intro i h1 h2;have:=H i (adL.2 h1);rw[adk,bz h1,bz h2] at this;exact this
 ·rintro rfl i _;rw[adk]
theorem EC {l k:List Int} (hl:l.length<=1000000):EB l k=some (decide (l=k)):=by
 unfold EB
 by_cases h:l.length=k.length
 ·rw[aC (by rw[aA,aG,adf];rfl)];rw[bA l.length (λi=>decide (a8 l i=a8 k i)) false () ade ?_ ?_]
  ·rw[all_eq h];split
   ·rename_i e;rw[e]
   ·rename_i e;rw[Bool.not_eq_true] at e;rw[e]
  ·intro i hi;have hk:i<k.length:=ade;simp only[cZ,hi,hk,ao,ads,adA,ak,aG,aA,bh,bT,aU (show i<9223372036854775807 by omega)];grind
  ·rw[ba];rfl
 ·rw[aD (by rw[aA,aG,adg];rfl),adl (λe=>h (by rw[e]))]
theorem W5 {l k:List Int} (hl:l.length<=1000000):M9 l k=some (decide (l=k)):=EC hl
theorem NL {cap:Int} (jT:1000<=cap/\cap<=1048576) {c:List (Int×Int)} (hc:qW c) (hp:∀j,j<c.length->1<=(a8 c j).1) {fs:List cy} (hf:Hz c.length fs) {k:Nat} (hk:k+1<=fs.length):1<=(cR cap c fs (k+1)).1:=by
 obtain⟨i1,i2,i3⟩:=eW (cap:=cap) ade hc hf k ade;obtain⟨f1,f2⟩:=hf k ade;obtain⟨s1,s2,s3⟩:=hc (a8 fs k).2.1.toNat ade;have:=iK i1 s3;have:=hp (a8 fs k).2.1.toNat ade;simp only[cR];omega
theorem rD {cap:Int} (jT:1000<=cap/\cap<=1048576) {l:List aT}:∀i,(∀j,j<i->fb l j=true)->∀j,j<i->1<=(a8 (dK cap l i) j).1
 |0,_,j,hj=>absurd hj (adS _)
 |i+1,h,j,hj=>by
  have hc:=gn jT i (λj hj=>h j ade);have ih:=rD jT i (λj hj=>h j ade);have hl:=cN cap l i
  by_cases e:j<i
  ·rw[dK,dI ade];exact ih j e
  ·have e:j=i:=by omega
   subst e;have ho:=dq (h j ade);rw[dK,gE hl];unfold oT;split
   ·decide
   ·split
    ·decide
    ·split
     ·decide
     ·split
      ·rename_i h6;obtain⟨a1,a2,a3,a4⟩:=ho.a h6;have:=ih (a8 l j).2.1.toNat ade;have:=Int.mul_le_mul a3 this ade ade;dsimp only;omega
      ·split
       ·rename_i h5;have h0:=ho.e h5;obtain⟨q,hq⟩:∃q,(a8 l j).2.2.2.1.length=q+1:=⟨(a8 l j).2.2.2.1.length-1,ade⟩;have hf:Hz (dK cap l j).length (a8 l j).2.2.2.1:=λk hk=>by rw[hl];exact ho.f k hk
        have hp:=NL jT hc (λk hk=>ih k ade) hf (k:=q) ade;obtain⟨i1,i2,i3⟩:=eW (cap:=cap) ade hc hf (q+1) ade;have:=iK i1 i3;unfold Az;rw[hq];dsimp only;omega
       ·decide
def Is (m:aK) (t:Int):Int:=mQ (a8 (dK 1000000 m.1 m.1.length) t.toNat).1 8
def mg (m:aK) (l:List Int):Nat->Int
 |0=>0
 |k+1=>mg m l k+Is m (a8 l k)
def JA (m:aK) (l:List Int):Prop:=∀x∈l,0<=x/\x<(m.1.length:Int)
theorem AN {m:aK} {l:List Int} (h:JA m l) {i:Nat} (hi:i<l.length):0<=a8 l i/\a8 l i<(m.1.length:Int):=h _ (by rw[bz hi];exact adT _)
theorem zY {m:aK} (hm:oD m) {t:Int} (h:0<=t/\t<(m.1.length:Int)):8<=Is m t/\Is m t<=264:=by
 have z:=cw hm.k;have h1:=rD (cap:=1000000) ade m.1.length z.2 t.toNat ade;have h2:=hm.z t.toNat ade;unfold Is mQ;omega
theorem nU {m:aK} (hm:oD m) {l:List Int} (h:JA m l):∀k,k<=l.length->8*k<=mg m l k/\mg m l k<=264*k
 |0,_=>by simp[mg]
 |k+1,hk=>by
  have:=nU hm h k ade;have:=zY hm (AN h (i:=k) ade);simp only[mg];omega
theorem Sv {m:aK} (hm:oD m) {t:Int} (h:0<=t/\t<(m.1.length:Int)):s_ m.1 t=((a8 (dK 1000000 m.1 m.1.length) t.toNat).1,(a8 (dK 1000000 m.1 m.1.length) t.toNat).2,0):=by
 have h0:iz m.1 t=0:=by
  unfold iz;rw[adp hm.k,adi,adq (by have:=hm.z t.toNat ade;omega)]
 unfold s_;rw[adp h0]
theorem Lf {x:Int} (h:0<=x/\x<=100000):IK x=some (mQ x 8,0):=by
 unfold IK;have h1:aO x 0=false:=by rw[aE];exact adg
 have h2:aO 1073741824 x=false:=by rw[aE];exact adg
 rw[h1,h2,aC rfl,join_some,aC rfl];have e:=DZ (x:=x) (a:=8) ade (Or.inr rfl);rw[show bq 3 (ab 3 x 8) 1=ab 3 x 7 by rw[c8 ade ade,cD ade ade,c8 ade ade];omega,show bq 3 8 1=7 by rw[cD ade ade];rfl] at e;rw[e]
theorem Ma {m:aK} (hf:Fit bJ m) (hm:oD m) {f:bY} {l:List Int} (h:JA m l) (hl:l.length<=1000000):Aj (m,f,()) l=some (mg m l l.length,0):=by
 unfold Aj;rw[aV (λk=>(mg m l k,(k:Int))) l.length (mg m l l.length) ?_ ade ?_ ?_]
 ·rfl
 ·intro k hk;have hx:=AN h hk;have b1:=nU hm h k ade;have b2:=zY hm hx;have z:=cw hm.k;have p:=rD (cap:=1000000) ade m.1.length z.2 (a8 l k).toNat ade;have q:=hm.z (a8 l k).toNat ade;have e1:xQ m.1 (a8 l k)=some ((a8 (dK 1000000 m.1 m.1.length) (a8 l k).toNat).1,(a8 (dK 1000000 m.1 m.1.length) (a8 l k).toNat).2,0):=by rw[sj hf.1,Sv hm hx]
  have e2:IK (a8 (dK 1000000 m.1 m.1.length) (a8 l k).toNat).1=some (Is m (a8 l k),0):=Lf ade;simp only[cZ,hk,ao,ads,adA,ak,e1,a9,cE,aeb,ae7,e2,aU (show k<9223372036854775807 by omega)];rw[jl ade ade];rfl
 ·simp only[ba,ao];rfl
theorem KX {x:Int} (h:0<=x/\x<=1000000000):KW x=some (mQ x 8):=by
 unfold KW;rw[Eh ade (Or.inr rfl)];rfl
theorem LX {m:aK} (hm:oD m) {l:List Int} (h:JA m l) (hl:l.length<=1000000):C8 m l=some (mg m l l.length):=by
 have z:=cw hm.k;unfold C8;rw[py z.1 z.2,a9];rw[aV (λk=>(mg m l k,(k:Int))) l.length (mg m l l.length) ?_ ade ?_ ?_]
 ·rfl
 ·intro k hk;have hx:=AN h hk;have b1:=nU hm h k ade;have b2:=zY hm hx;have p:=rD (cap:=1000000) ade m.1.length z.2 (a8 l k).toNat ade;have q:=hm.z (a8 l k).toNat ade;have e1:a8 ((dK 1000000 m.1 m.1.length).map (·.1)) (a8 l k).toNat=(a8 (dK 1000000 m.1 m.1.length) (a8 l k).toNat).1:=eC _ (by rw[cN];omega);simp only[cZ,hk,ao,ads,adA,ak];rw[bE hx.1 (by rw[ae0,cN];omega),e1,KX ade,a9,aU ade,show mQ (a8 (dK 1000000 m.1 m.1.length) (a8 l k).toNat).1 8=Is m (a8 l k) from rfl,jl ade ade];rfl
 ·simp only[ba,ao];rfl
def mP (m:aK) (x:aX):List Int:=if x.1=24 then[] else if 0<=dV x then mJ (a8 m.2.2.1 (dV x).toNat).2.2.2.1 (a8 m.2.2.1 (dV x).toNat).2.1.toNat else[]
def gQ (m:aK) (f:bY) (x:aX) (l:List Int):List Int:=l.take (l.length-(mP m x).length)++(if x.1=24 then[bO f x.2.1] else[])
def me (m:aK) (f:bY) (x:aX) (l:List Int):Option (List Int):=
 if(mP m x).length<=l.length/\l.drop (l.length-(mP m x).length)=mP m x then(if mg m (gQ m f x l) (gQ m f x l).length<=4096 then some (gQ m f x l) else none) else none
def xL (m:aK) (l:List Int):Prop:=JA m l/\l.length<=512
theorem P4:∀c:Fin 35,c.1=24->(JI (aM c.1).1 0=true\/J' (aM c.1).1 0=true)/\0<=(a8 (aM c.1).1 0).1:=by decide+kernel
theorem HR {m:aK} {f:bY} {x:aX} (ok:yn m.1.length f) (h:pP x=0) (hn:fA m f x=true) (ub:x.1=24):0<=bO f x.2.1/\bO f x.2.1<(m.1.length:Int):=by
 obtain⟨hc,d6⟩:=pQ h;have s:=P4 ⟨x.1,hc⟩ ub;have o0:=(d6 0 ade).1;exact⟨uY ok (Int.le_trans s.2 o0) (oi hn (i:=0) ade s.1 (Int.le_trans s.2 o0)),(kf ok ade _).2⟩
theorem z_ {m:aK} {f:bY} {x:aX} (hn:fA m f x=true):dV x<(m.2.2.1.length:Int):=by
 unfold fA at hn;simp only[adr,adk] at hn;exact hn.2.1
theorem AR {m:aK} {f:bY} {x:aX} (ok:yn m.1.length f) (h:pP x=0) (hn:fA m f x=true) {l:List Int} (hl:xL m l):JA m (gQ m f x l)/\(gQ m f x l).length<=513:=by
 constructor
 ·intro y hy;unfold gQ at hy;rcases adC.1 hy with hy|hy
  ·exact hl.1 y (List.mem_of_mem_take hy)
  ·split at hy
   ·rename_i ub;rw[adF] at hy;rw[hy];exact HR ok h hn ub
   ·cases hy
 ·unfold gQ;have:=hl.2;rw[ado,adY];split<;>simp<;>omega
theorem zU {m:aK} {f:bY} {x:aX} (hm:oD m) (ok:yn m.1.length f) (h:pP x=0) (hn:fA m f x=true) {l r:List Int} (hl:xL m l) (hr:me m f x l=some r):xL m r:=by
 unfold me at hr;split at hr
 ·split at hr
  ·rename_i hb;injection hr with hr
   subst hr;obtain⟨o1,o2⟩:=AR ok h hn hl;refine⟨o1,?_⟩;have:=(nU hm o1 _ (adw _)).1;omega
  ·cases hr
 ·cases hr
theorem Pp {m:aK} {x:aX} (h:x.1=24):mP m x=[]:=by unfold mP;rw[adp h]
theorem Q5 {x:aX} (h:x.1=24):dV x= -1:=by unfold dV;rw[adi,adi]
theorem Wq {m:aK} {i:Nat} (hi:i<m.2.2.1.length) {x:aX} (hm:oD m) (h:pP x=0) (hn:fA m (a8 m.2.2.1 i) x=true):Rd m (i:Int) x=some (mP m x,if x.1=24 then bO (a8 m.2.2.1 i) x.2.1 else-1):=by
 have hc:=z_ hn;unfold Rd
 by_cases ub:x.1=24
 ·rw[aD (by rw[ax];exact adm ub),Am hi,a9,Pp ub,adp ub]
 ·rw[aC (by rw[ax];exact adl ub),MS,a9,adq ub];unfold mP;rw[adq ub]
  by_cases h0:0<=dV x
  ·rw[adp h0,aD (by rw[aN];exact adm h0)];have okg:=hm.g (dV x).toNat ade;have hp:=okg.p;have hs:=okg.s;generalize hg:a8 m.2.2.1 (dV x).toNat=g at okg hp hs⊢;obtain⟨p,hp'⟩:∃p:Nat,g.2.1=p:=⟨g.2.1.toNat,ade⟩;rw[aV (λk=>((k:Int),mJ g.2.2.2.1 k)) p (mJ g.2.2.2.1 p) ?_ ade ?_ ?_]
   ·rw[join_some,hp'];rfl
   ·rfl
   ·intro k hk;have hk':k<g.2.2.2.1.length:=ade;have hlen:=dE g.2.2.2.1 k;dsimp only;rw[bE h0 hc,hg,hp',cZ,adm hk,aD rfl,bE h0 hc,hg,ak,adp hk',aY (by rw[ay];omega),aU ade];rfl
   ·dsimp only;rw[bE h0 hc,hg,hp',ba,aC rfl];rfl
  ·rw[adq h0,aC (by rw[aN];exact adl h0),join_some]
theorem HV {m:aK} {f:bY} {x:aX} (hm:oD m) (hn:fA m f x=true):(mP m x).length<=16:=by
 have hc:=z_ hn;unfold mP;split
 ·simp
 ·split
  ·have okg:=hm.g (dV x).toNat ade;have:=okg.p;have:=okg.s;rw[dE];omega
  ·simp
theorem Wg {m:aK} {i:Nat} (hi:i<m.2.2.1.length) {x:aX} (hm:oD m) (h:pP x=0) (hn:fA m (a8 m.2.2.1 i) x=true) {l:List Int} (hl:xL m l):∃o,I_ m (i:Int) x l=some (o,(me m (a8 m.2.2.1 i) x l).isSome)/\∀r,me m (a8 m.2.2.1 i) x l=some r->o=r:=by
 have ok:=hm.g i hi;obtain⟨o1,o2⟩:=AR ok h hn hl;have ht:=HV hm hn;have n_:=hl.2;unfold I_;rw[Wq hi hm h hn,a9];generalize a8 m.2.2.1 i=f at ok hn o1 o2⊢;dsimp only
 by_cases h1:(mP m x).length<=l.length
 ·have sb:bq 3 l.length ((mP m x).length:Int)=((l.length-(mP m x).length:Nat):Int):=by rw[cD ade ade];omega
  have hb:∀{ρ:Type} (k:Nat->Option ρ),T.b_ l.length ((l.length-(mP m x).length:Nat):Int) k=k (l.length-(mP m x).length):=λk=>by rw[T.d4,adh,adx]
  have Nq:aO ((l.length-(mP m x).length:Nat):Int) 0=false:=by rw[aE];exact adg
  have etk:av (bt l.length (l.length-(mP m x).length)) (aH (l.length-(mP m x).length) l)=l.drop (l.length-(mP m x).length):=by
   show List.take (l.length-(l.length-(mP m x).length)) (List.drop _ l)=_;rw[List.take_of_length_le];rw[ael];omega
  have etk2:av (l.length-(mP m x).length) (aH 0 l)=l.take (l.length-(mP m x).length):=by
   show List.take _ (List.drop 0 l)=_;rw[List.drop_zero]
  rw[sb,Nq,aC rfl,hb,etk,EC (by rw[ael];omega),a9,join_some]
  by_cases h2:l.drop (l.length-(mP m x).length)=mP m x
  ·rw[aC (by rw[aA,adm h2];rfl),hb,etk2,aY (by rw[ay,adY];omega)];unfold me;rw[adp (And.intro h1 h2)];have ecat:aw [] (l.take (l.length-(mP m x).length))=l.take (l.length-(mP m x).length):=rfl;rw[ecat];have fin:(bind (C8 m (gQ m f x l)) (λv4=>(some ((gQ m f x l),(cB v4 4096)))))=some (gQ m f x l,(if mg m (gQ m f x l) (gQ m f x l).length<=4096 then some (gQ m f x l) else none).isSome):=by
    rw[LX hm o1 ade,a9,aN];split
    ·rename_i hb;rw[adm hb];rfl
    ·rename_i hb;rw[adl hb];rfl
   refine⟨gQ m f x l,?_,λr hr=> ?_⟩
   ·by_cases ub:x.1=24
    ·have s:=HR ok h hn ub;have eo:gQ m f x l=l.take (l.length-(mP m x).length)++[bO f x.2.1]:=by unfold gQ;rw[adp ub]
     rw[adp ub,aD (by rw[aN];exact adm s.1),aY (by rw[ay,adY];omega),join_some,show aw (l.take (l.length-(mP m x).length)) [bO f x.2.1]=gQ m f x l from eo.symm];exact fin
    ·have eo:gQ m f x l=l.take (l.length-(mP m x).length):=by unfold gQ;rw[adq ub,adP]
     rw[adq ub,aC (by rw[aN];exact adg),join_some,<-eo];exact fin
   ·split at hr
    ·injection hr
    ·cases hr
  ·rw[aD (by rw[aA,adl h2];rfl)];have:me m f x l=none:=by unfold me;rw[adq λh=>h2 h.2]
   rw[this];exact⟨[],rfl,λr hr=>by cases hr⟩
 ·have Nq:aO (bq 3 l.length ((mP m x).length:Int)) 0=true:=by rw[cD ade ade,aE];exact adf
  rw[Nq,aD rfl,join_some,aD rfl];have:me m f x l=none:=by unfold me;rw[adq λh=>h1 h.1]
  rw[this];exact⟨[],rfl,λr hr=>by cases hr⟩
theorem W3 {m:aK} (hf:Fit bJ m) {f:bY} (ok:yn m.1.length f) {x:aX} (hm:oD m) (h:pP x=0) (hn:fA m f x=true) {l:List Int} (hl:xL m l):∃o,M7 (m,f,()) x l=some (o,(me m f x l).isSome)/\∀r,me m f x l=some r->o=r:=by
 obtain⟨o1,o2⟩:=AR ok h hn hl;have ht:=HV hm hn;have n_:=hl.2;have hc:=z_ hn;have fin:∀(w:List Int),w=gQ m f x l->(bind (Aj (m,f,()) w) (λv3=>(join ((List Int)×Bool) (af (bm v3.2 0) (λ_=>(some (w,(cB v3.1 4096)))) λ_=>(some (w,false))) (λv4=>(some (v4.1,v4.2))))))=some (gQ m f x l,(if mg m (gQ m f x l) (gQ m f x l).length<=4096 then some (gQ m f x l) else none).isSome):=by
  rintro w rfl;rw[Ma hf hm o1 ade,a9,aD (by rw[aG];rfl),join_some,aN];split
  ·rename_i hb;rw[adm hb];rfl
  ·rename_i hb;rw[adl hb];rfl
 unfold M7
 by_cases ub:x.1=24
 ·have Yq:∀{ρ:Type} (k:Option ρ),T.gO 1 k=k:=λk=>by rw[T.e9,adq (by decide)]
  have dj:∀{ρ:Type} (k:Option ρ),T.allI l.length (l.length:Int) (l.length:Int) k=k:=λk=>by rw[T.Kr,adp ⟨rfl,rfl⟩]
  have e0:(mP m x)=[]:=Pp ub;have eo:gQ m f x l=l++[bO f x.2.1]:=by
   unfold gQ;rw[adp ub,e0];show List.take (l.length-0) l++_=_;rw[Nat.sub_zero,List.take_length]
  rw[aD (by rw[ax];exact adm ub),dj,Ah,a9,Yq,aY (by rw[ay];omega),join_some,Es,a9,Q5 ub,aC (by rw[aN];rfl)];unfold me;rw[e0,adp ⟨ae5 _,by simp⟩];refine⟨gQ m f x l,?_,λr hr=> ?_⟩
  ·exact fin _ eo.symm
  ·split at hr
   ·injection hr
   ·cases hr
 ·rw[aC (by rw[ax];exact adl ub),join_some,Es,a9];have eo:gQ m f x l=l.take (l.length-(mP m x).length):=by unfold gQ;rw[adq ub,adP]
  by_cases h0:0<=dV x
  ·have okg:=hm.g (dV x).toNat ade;have hp:=okg.p;have hs:=okg.s;have etk:mP m x=mJ (a8 m.2.2.1 (dV x).toNat).2.2.2.1 (a8 m.2.2.1 (dV x).toNat).2.1.toNat:=by unfold mP;rw[adq ub,adp h0]
   rw[aD (by rw[aN];exact adm h0),bE h0 hc];generalize hg:a8 m.2.2.1 (dV x).toNat=g at okg hp hs etk⊢;obtain⟨p,hp'⟩:∃p:Nat,g.2.1=p:=⟨g.2.1.toNat,ade⟩;rw[hp',adx] at etk;have qf:(mP m x).length=p:=by rw[etk,dE]
   rw[hp']
   by_cases h1:p<=l.length
   ·have sb:bq 3 l.length (p:Int)=((l.length-p:Nat):Int):=by rw[cD ade ade];omega
    have hb:∀{ρ:Type} (k:Nat->Option ρ),T.b_ l.length ((l.length-p:Nat):Int) k=k (l.length-p):=λk=>by rw[T.d4,adh,adx]
    have etk1:av (bt l.length (l.length-p)) (aH (l.length-p) l)=l.drop (l.length-p):=by
     show List.take (l.length-(l.length-p)) (List.drop _ l)=_;rw[List.take_of_length_le];rw[ael];omega
    have etk2:av (l.length-p) (aH 0 l)=l.take (l.length-p):=by
     show List.take _ (List.drop 0 l)=_;rw[List.drop_zero]
    have hdl:(l.drop (l.length-p)).length=p:=by rw[ael];omega
    rw[sb,aC (by rw[aE];exact adg),hb,etk1];rw[bA (l.drop (l.length-p)).length (λj=>decide (a8 (l.drop (l.length-p)) j=a8 (mJ g.2.2.2.1 p) j)) ([],false) () ade ?_ ?_]
    ·rw[all_eq (by rw[hdl,dE])];unfold me;rw[qf,etk]
     by_cases h2:l.drop (l.length-p)=mJ g.2.2.2.1 p
     ·rw[adp (adm h2),adp (And.intro h1 h2),hb,etk2];refine⟨gQ m f x l,?_,λr hr=> ?_⟩
      ·show bind (Aj (m,f,()) (l.take (l.length-p))) _=_;refine fin _ ?_;rw[eo,qf]
      ·split at hr
       ·injection hr
       ·cases hr
     ·rw[adq (by simpa using h2),adq λh=>h2 h.2];exact⟨[],rfl,λr hr=>by cases hr⟩
    ·intro j hj;have Nk:j<p:=ade;have Yo:j<g.2.2.2.1.length:=ade;simp only[cZ,hj,Yo,ao,ads,adA,ak,aG,aA,bh,bT,sy _ Nk,aU (show j<9223372036854775807 by omega)];grind
    ·rw[ba];rfl
   ·rw[aD (by rw[cD ade ade,aE];exact adf)];have:me m f x l=none:=by unfold me;rw[adq λh=>h1 (by rw[qf] at h;exact h.1)]
    rw[this];exact⟨[],rfl,λr hr=>by cases hr⟩
  ·have etk:mP m x=[]:=by unfold mP;rw[adq ub,adq h0]
   rw[aC (by rw[aN];exact adl h0)];unfold me;rw[etk,adp ⟨ae5 _,by simp⟩];refine⟨gQ m f x l,?_,λr hr=> ?_⟩
   ·show bind (Aj (m,f,()) l) _=_;refine fin _ ?_;rw[eo,etk];show l=List.take (l.length-0) l;rw[Nat.sub_zero,List.take_length]
   ·split at hr
    ·injection hr
    ·cases hr
section scratch
variable (d:Nat->List Int) (aft:Nat->List Int->Option (List Int))
inductive Vs:Nat->List Int->Prop
 |here:Vs 0 []
 |step (i k:Nat) (l r:List Int):Vs i l->aft i l=some r->k<(d i).length->Vs (a8 (d i) k).toNat r
def mS:Prop:=(∀i l,Vs d aft i l->aft i l≠none)/\∀i l l',Vs d aft i l->Vs d aft i l'->l=l'
def tq (n:Nat) (t:List (List Int)):Prop:=t.length=n/\(∀i,lq d 0 i->Vs d aft i (a8 t i))/\∀i,¬lq d 0 i->a8 t i=[]
end scratch
theorem tq.eq {d:Nat->List Int} {aft:Nat->List Int->Option (List Int)} {n:Nat} {t t':List (List Int)} (hR:mS d aft) (h:tq d aft n t) (h':tq d aft n t'):t=t':=by
 apply List.ext_getElem (by rw[h.1,h'.1]);intro i h1 h2;rw[<-bz h1,<-bz h2]
 by_cases hr:lq d 0 i
 ·exact hR.2 i _ _ (h.2.1 i hr) (h'.2.1 i hr)
 ·rw[h.2.2 i hr,h'.2.2 i hr]
theorem Vs.Yz {d:Nat->List Int} {aft:Nat->List Int->Option (List Int)} {i:Nat} {l:List Int} (h:Vs d aft i l):lq d 0 i:=by
 induction h with
 |here=>exact lq.here
 |step i k l r _ _ hk ih=>exact lq.step i k ih hk
theorem zN {d:Nat->List Int} {aft:Nat->List Int->Option (List Int)} {n:Nat} (hd:DH n d) (hn:0<n) {t:List (List Int)} {m:List Bool} (hl:t.length=n) (h0:a8 m 0=true) (ht0:a8 t 0=[]) (hv:∀x,a8 m x=true->Vs d aft x (a8 t x)) (hz:∀x,a8 m x=false->a8 t x=[])
 (hc:∀i,i<n->a8 m i=true->∃r,aft i (a8 t i)=some r/\∀k,k<(d i).length->a8 m (a8 (d i) k).toNat=true/\a8 t (a8 (d i) k).toNat=r):mS d aft/\tq d aft n t:=by
 have all:∀i l,Vs d aft i l->a8 m i=true/\l=a8 t i:=by
  intro i l h
  induction h with
  |here=>exact⟨h0,ht0.symm⟩
  |step i k l r hl hr hk ih=>
   obtain⟨i1,i2⟩:=ih;subst i2;obtain⟨r',e1,e2⟩:=hc i (mb hd hn hl.Yz) i1;rw[e1] at hr;injection hr with hr
   subst hr;exact⟨(e2 k hk).1,(e2 k hk).2.symm⟩
 have Yz:∀i,lq d 0 i->a8 m i=true:=by
  intro i h
  induction h with
  |here=>exact h0
  |step i k hi hk ih=>
   obtain⟨r',e1,e2⟩:=hc i (mb hd hn hi) ih;exact(e2 k hk).1
 refine⟨⟨λi l h Cp=> ?_,λi l l' h h'=>by rw[(all i l h).2,(all i l' h').2]⟩,hl,λi hi=>hv i (Yz i hi),λi hi=>hz i ?_⟩
 ·obtain⟨i1,i2⟩:=all i l h;obtain⟨r',e1,e2⟩:=hc i (mb hd hn h.Yz) i1;rw[i2,e1] at Cp;cases Cp
 ·have:¬a8 m i=true:=λh=>hi (hv i h).Yz
  simpa using this
abbrev FSx:Type:=List (List Int)×List Bool×List Int×Bool
def fill (z0:FSx) (r d:List Int):Nat->FSx
 |0=>z0
 |k+1=>if a8 (fill z0 r d k).2.1 (a8 d k).toNat=true then fill z0 r d k
  else(ae (fill z0 r d k).1 (a8 d k).toNat r,ae (fill z0 r d k).2.1 (a8 d k).toNat true,(fill z0 r d k).2.2.1++[a8 d k],true)
structure FOk (n:Nat) (z0 z:FSx) (r d:List Int) (k:Nat):Prop where
 a:z.1.length=n/\z.2.1.length=n
 b:∀j,a8 z0.2.1 j=true->a8 z.2.1 j=true
 b':∀j,a8 z.2.1 j=true->a8 z0.2.1 j=true\/((∃k',k'<k/\(a8 d k').toNat=j)/\(j:Int)∈z.2.2.1)
 c:∀k',k'<k->a8 z.2.1 (a8 d k').toNat=true
 t:∀j,(a8 z0.2.1 j=true->a8 z.1 j=a8 z0.1 j)/\(a8 z0.2.1 j=false->a8 z.2.1 j=true->a8 z.1 j=r)/\(a8 z.2.1 j=false->a8 z.1 j=a8 z0.1 j)
 g:∀x∈z0.2.2.1,x∈z.2.2.1
 g':∀x∈z.2.2.1,x∈z0.2.2.1\/(0<=x/\x<(n:Int)/\a8 z.2.1 x.toNat=true)
 l:2*(n-oH z.2.1)+z.2.2.1.length<=2*(n-oH z0.2.1)+z0.2.2.1.length
 q:(z.2.2.2=z0.2.2.2/\z.1=z0.1/\z.2.1=z0.2.1)\/(z.2.2.2=true/\oH z0.2.1<oH z.2.1)
theorem ml {n:Nat} {z0:FSx} {r d:List Int} (h1:z0.1.length=n) (h2:z0.2.1.length=n) (hd:∀k,k<d.length->0<=a8 d k/\a8 d k<n):∀k,k<=d.length->FOk n z0 (fill z0 r d k) r d k
 |0,_=>⟨⟨h1,h2⟩,λ_ h=>h,λ_ h=>Or.inl h,λk' hk'=>absurd hk' (adS _),λj=>⟨λ_=>rfl,λh h'=>absurd (show a8 z0.2.1 j=true from h') (by rw[h];decide),λ_=>rfl⟩,λ_ h=>h,λ_ h=>Or.inl h,adw _,Or.inl ⟨rfl,rfl,rfl⟩⟩
 |k+1,hk=>by
  have W:=ml (r:=r) h1 h2 hd k ade;obtain⟨d1,d2⟩:=hd k ade;unfold fill;generalize fill z0 r d k=z at W⊢;obtain⟨za,zb⟩:=W.a
  by_cases hc:a8 z.2.1 (a8 d k).toNat=true
  ·rw[adp hc];refine⟨W.a,W.b,λj hj=> ?_,λk' hk'=> ?_,W.t,W.g,W.g',W.l,W.q⟩
   ·rcases W.b' j hj with h|⟨⟨k',h,e⟩,h3⟩
    ·exact Or.inl h
    ·exact Or.inr ⟨⟨k',ade,e⟩,h3⟩
   ·by_cases e:k'=k
    ·subst e;exact hc
    ·exact W.c k' ade
  ·rw[adq hc];have K3:a8 z.2.1 (a8 d k).toNat=false:=by simpa using hc
   have Cl:=λj=>dd (l:=z.2.1) (i:=(a8 d k).toNat) (j:=j) (x:=true) ade
   have eR:=λj=>dd (l:=z.1) (i:=(a8 d k).toNat) (j:=j) (x:=r) ade
   have ne:∀{j},a8 z.2.1 j=true->(a8 d k).toNat≠j:=λhj e=>by subst e;exact hc hj
   have mono:∀j,a8 z.2.1 j=true->a8 (ae z.2.1 (a8 d k).toNat true) j=true:=λj hj=>by
    rw[Cl,adq (ne hj)];exact hj
   have mem:((a8 d k).toNat:Int)∈z.2.2.1++[a8 d k]:=by
    rw[Int.toNat_of_nonneg d1];exact adC.2 (Or.inr (adF.2 rfl))
   have c1:=mZ z.2.1 (ae z.2.1 (a8 d k).toNat true) (by rw[cM]) mono _ K3 (by rw[Cl,adp rfl]);have c2:=kR (ae z.2.1 (a8 d k).toNat true);rw[cM] at c2;refine⟨⟨by rw[cM];exact za,by rw[cM];exact zb⟩,λj hj=>mono j (W.b j hj),λj hj=> ?_,λk' hk'=> ?_,λj=>⟨λhj=> ?_,λhj hj'=> ?_,λhj=> ?_⟩,λx hx=>adC.2 (Or.inl (W.g x hx)),λx hx=> ?_,?_,Or.inr ⟨rfl,?_⟩⟩
   ·dsimp only at hj⊢;rw[Cl] at hj;split at hj
    ·rename_i e;exact Or.inr ⟨⟨k,ade,e⟩,by rw[<-e];exact mem⟩
    ·rcases W.b' j hj with h|⟨⟨k',h,e⟩,h3⟩
     ·exact Or.inl h
     ·exact Or.inr ⟨⟨k',ade,e⟩,adC.2 (Or.inl h3)⟩
   ·dsimp only
    by_cases e:k'=k
    ·subst e;rw[Cl,adp rfl]
    ·exact mono _ (W.c k' ade)
   ·dsimp only;rw[eR,adq (ne (W.b j hj))];exact(W.t j).1 hj
   ·dsimp only at hj'⊢;rw[Cl] at hj';rw[eR]
    by_cases e:(a8 d k).toNat=j
    ·rw[adp e]
    ·rw[adq e] at hj'⊢;exact(W.t j).2.1 hj hj'
   ·dsimp only at hj⊢;rw[Cl] at hj;rw[eR]
    by_cases e:(a8 d k).toNat=j
    ·rw[adp e] at hj;cases hj
    ·rw[adq e] at hj⊢;exact(W.t j).2.2 hj
   ·rcases adC.1 hx with hx|hx
    ·rcases W.g' x hx with h|⟨h1,h2,h3⟩
     ·exact Or.inl h
     ·exact Or.inr ⟨h1,h2,mono _ h3⟩
    ·rw[adF] at hx;subst hx;exact Or.inr ⟨d1,d2,by dsimp only;rw[Cl,adp rfl]⟩
   ·have:=W.l;simp only[ado,adJ];omega
   ·have:=lC z0.2.1 z.2.1 ade W.b;dsimp only;omega
def pq (z0:FSx) (r d:List Int) (k:Nat):Bool:= !a8 (fill z0 r d k).2.1 (a8 d k).toNat||decide (a8 (fill z0 r d k).1 (a8 d k).toNat=r)
theorem OJ {n:Nat} {z0:FSx} {r d:List Int} (h1:z0.1.length=n) (h2:z0.2.1.length=n) (hd:∀k,k<d.length->0<=a8 d k/\a8 d k<n) (h:(List.range d.length).all (pq z0 r d)=true) {k:Nat} (hk:k<d.length):a8 (fill z0 r d d.length).1 (a8 d k).toNat=r:=by
 have hp:=adE.1 h k (adL.2 hk);have W:=ml (r:=r) h1 h2 hd k ade;have U:=ml (r:=r) h1 h2 hd d.length (adw _);have hm:=U.c k hk;cases h0:a8 z0.2.1 (a8 d k).toNat with
 |false=>exact(U.t _).2.1 h0 hm
 |true=>
  rw[(U.t _).1 h0];unfold pq at hp;rw[W.b _ h0,Bool.not_true,Bool.false_or,adk,(W.t _).1 h0] at hp;exact hp
theorem OK {n:Nat} {z0:FSx} {r d:List Int} (h1:z0.1.length=n) (h2:z0.2.1.length=n) (hd:∀k,k<d.length->0<=a8 d k/\a8 d k<n) (h:¬(List.range d.length).all (pq z0 r d)=true):∃k,k<d.length/\a8 z0.2.1 (a8 d k).toNat=true/\a8 z0.1 (a8 d k).toNat≠r:=by
 have:∃k,k<d.length/\pq z0 r d k=false:=by
  apply Classical.byContradiction;intro hn;apply h;rw[adE];intro k hk;cases e:pq z0 r d k with
  |true=>rfl
  |false=>exact absurd ⟨k,adL.1 hk,e⟩ hn
 obtain⟨k,hk,hp⟩:=this;have W:=ml (r:=r) h1 h2 hd k ade;unfold pq at hp;rw[ad',Bool.not_eq_false',adj] at hp;refine⟨k,hk,?_⟩;cases h0:a8 z0.2.1 (a8 d k).toNat with
 |true=>
  refine⟨rfl,?_⟩;rw[<-(W.t _).1 h0];exact hp.2
 |false=>exact absurd ((W.t _).2.1 h0 hp.1) hp.2
theorem Hc {S E Q:Type} {f:S->Option (T.LR S E Q)} (I:S->Prop) (P:E->Prop) (R:Q->Prop) (m:S->Nat) (h:∀s,I s->(∃s',f s=some (.ok s')/\I s'/\m s'<m s)\/(∃e,f s=some (.ex e)/\P e)\/(∃q,f s=some (.rt q)/\R q)):∀(N:Nat) (s:S),I s->m s<N->(∃e,T.iter f N s=some (.ex e)/\P e)\/(∃q,T.iter f N s=some (.rt q)/\R q)
 |0,_,_,h=>absurd h ade
 |N+1,s,hI,hm=>by
  rcases h s hI with⟨s',h1,h2,h3⟩|⟨e,h1,h2⟩|⟨q,h1,h2⟩
  ·have ih:=Hc I P R m h N s' h2 ade;have e:T.iter f (N+1) s=T.iter f N s':=by
    show Option.bind (f s) _=_;rw[h1];rfl
   rw[e];exact ih
  ·refine Or.inl ⟨e,?_,h2⟩;show Option.bind (f s) _=_;rw[h1];rfl
  ·refine Or.inr ⟨q,?_,h2⟩;show Option.bind (f s) _=_;rw[h1];rfl
theorem Hl {S E Q ρ:Type} {f:S->Option (T.LR S E Q)} {s:S} {kx:E->Option ρ} {kr:Q->Option ρ} (I:S->Prop) (P:E->Prop) (R:Q->Prop) (m:S->Nat) (hI:I s) (hm:m s<9223372036854775808) (h:∀s,I s->(∃s',f s=some (.ok s')/\I s'/\m s'<m s)\/(∃e,f s=some (.ex e)/\P e)\/(∃q,f s=some (.rt q)/\R q)):(∃e,P e/\loop S E Q f s kx kr=kx e)\/(∃q,R q/\loop S E Q f s kx kr=kr q):=by
 rcases Hc I P R m h 9223372036854775808 s hI hm with⟨e,h1,h2⟩|⟨q,h1,h2⟩
 ·refine Or.inl ⟨e,h2,?_⟩;unfold loop;rw[h1];rfl
 ·refine Or.inr ⟨q,h2,?_⟩;unfold loop;rw[h1];rfl
def eM (m:aK) (f:bY) (j:Nat) (s:List Int):Option (List Int):=me m f (a8 f.2.2.2.2.1 j) s
structure Pre (m:aK) (f:bY):Prop where
 fi:Fit bJ m
 ff:Fit iE f
 om:oD m
 ok:yn m.1.length f
 fl:je f.2.2.2.2.1=0
 nr:∀j,j<f.2.2.2.2.1.length->fA m f (a8 f.2.2.2.2.1 j)=true
theorem Kn {m:aK} {f:bY} (p:Pre m f) {j:Nat} {s:List Int} (h:Vs (cU f.2.2.2.2.1) (eM m f) j s):xL m s:=by
 have ok:=jf p.fl;have fe:DH f.2.2.2.2.1.length (cU f.2.2.2.2.1):=λi hi k hk=>ok.b i hi k hk
 induction h with
 |here=>exact⟨λx hx=>(by cases hx),ae5 _⟩
 |step i k l r hl hr hk ih=>
  have hi:=mb fe ok.n.1 hl.Yz;exact zU p.om p.ok (ok.c i hi) (p.nr i hi) ih hr
theorem W4 {l:List aX} (hf:Fit (.sl cK) l) (h0:je l=0) {i:Nat} (hi:i<l.length):M8 l (i:Int)=some (cU l i,0):=by
 have hl:=hf.len;unfold M8;have e1:aO (i:Int) 0=false:=by rw[aE];exact adg
 have e2:cB l.length (i:Int)=false:=by rw[aN];exact adg
 have ef:pz l (i:Int)=some (cU l i):=EE hi ade (fp (hf.at hi)).2.1;rw[Ag ade,a9,aC (cQ h0),e1,aC rfl,e2,join_some,aC rfl,ef,a9]
def Ds (m:aK) (t:List (List Int)):Nat->List Nat
 |0=>[]
 |k+1=>Ds m t k++[(mg m (a8 t k) (a8 t k).length).toNat]
theorem rG (m:aK) (t:List (List Int)):∀k,(Ds m t k).length=k
 |0=>rfl
 |k+1=>by rw[Ds,ado,rG m t k];rfl
def NJ (t:List (List Int)) (n:Nat):Bool:=decide (((a8 t (n-1)).length:Int)=0)
theorem VG {m:aK} {f:bY} (p:Pre m f):(mS (cU f.2.2.2.2.1) (eM m f)/\∃t,tq (cU f.2.2.2.2.1) (eM m f) f.2.2.2.2.1.length t/\Lt (m,f,())=some (Ds m t f.2.2.2.2.1.length,NJ t f.2.2.2.2.1.length))\/(¬mS (cU f.2.2.2.2.1) (eM m f)/\Lt (m,f,())=some ([],false)):=by
 have ok:=jf p.fl;obtain⟨n0,n1⟩:=ok.n;have hfc:=p.ff.2.2.2.2.1;have To:=λ{j s} h=>Kn p (j:=j) (s:=s) h
 have d6:=ok.c;have qI:=p.nr;have Nv:=λ{j:Nat} (hj:j<f.2.2.2.2.1.length) {s:List Int} (hs:xL m s)=>W3 p.fi p.ok (x:=a8 f.2.2.2.2.1 j) p.om (d6 j hj) (qI j hj) hs
 have H8:=λ{j:Nat} (hj:j<f.2.2.2.2.1.length)=>W4 hfc p.fl hj
 have fe:DH f.2.2.2.2.1.length (cU f.2.2.2.2.1):=λi hi k hk=>ok.b i hi k hk
 have n_:∀j,(cU f.2.2.2.2.1 j).length<=2:=λj=>lB _ _
 have J8:∀j s,me m f (a8 f.2.2.2.2.1 j) s=eM m f j s:=λ_ _=>rfl
 have a7M:=λ{s:List Int} (hs:xL m s)=>Ma p.fi p.om (f:=f) hs.1 (by have:=hs.2;omega)
 have hbp:=λ{s:List Int} (hs:xL m s)=>nU p.om hs.1 _ (adw s.length)
 have hb:∀{ρ:Type} {k:Nat->Option ρ},T.b_ 1073741824 f.2.2.2.2.1.length k=k f.2.2.2.2.1.length:=by
  intro ρ k;rw[T.d4,adh,adx]
 have e0:(bd f.2.2.2.2.1.length false).length=f.2.2.2.2.1.length:=adz;have e1:(bd f.2.2.2.2.1.length ([]:List Int)).length=f.2.2.2.2.1.length:=adz;have e1a:∀j,a8 (bd f.2.2.2.2.1.length ([]:List Int)) j=[]:=λj=>by
  by_cases hj:j<f.2.2.2.2.1.length
  ·rw[bz (by rw[e1];exact hj)];simp[bd]
  ·rw[dJ (by rw[e1];omega)];rfl
 obtain⟨qc,eR,nZ⟩:=wD n0;unfold Lt;dsimp only;rw[hb,hb,fX _ (by rw[e0];exact n0)];generalize ae (bd f.2.2.2.2.1.length false) 0 true=m0 at qc eR nZ⊢;generalize a0c:f.2.2.2.2.1=code at*;generalize hn:code.length=n at*;have key:=Hl (S:=List (List Int)×(List Bool×List Int)) (E:=List (List Int)) (Q:=List Nat×Bool) (ρ:=List Nat×Bool)
  (f:=(λv3=>(af (aO 0 v3.2.2.length) (λ_=>(ai v3.2.2.length (bq 3 v3.2.2.length 1) (λv4=>(b_ v3.2.2.length (bq 3 v3.2.2.length 1) (λv5=>(ai n (a8 v3.2.2 v4) (λv6=>(ai v3.1.length (a8 v3.2.2 v4) (λv7=>(bind (M7 (m,f,()) (a8 code v6) (a8 v3.1 v7)) (λv8=>(bind (M8 code (a8 v3.2.2 v4)) (λv9=>(join Bool (af (an v8.2) (λ_=>(some true)) λ_=>(some (an (bm v9.2 0)))) (λv10=>(af v10 (λ_=>(bT ([],false))) λ_=>(loop (Int×((List (List Int))×((List Bool)×(List Int)))) ((List (List Int))×((List Bool)×(List Int))) ((List Nat)×Bool) (λv11=>(af (aO v11.1 v9.1.length) (λ_=>(ai v9.1.length v11.1 (λv12=>(ai v11.2.2.1.length (a8 v9.1 v12) (λv13=>(af (an (a8 v11.2.2.1 v13)) (λ_=>(bj (aJ v11.2.2.2.length 1) (ai v11.2.1.length (a8 v9.1 v12) (λv14=>(ai v11.2.2.1.length (a8 v9.1 v12) (λv15=>(bh ((ab 3 v11.1 1),(ae v11.2.1 v14 v8.1),(ae v11.2.2.1 v15 true),(aw v11.2.2.2 [(a8 v9.1 v12)]))))))))) λ_=>(ai v11.2.1.length (a8 v9.1 v12) (λv14=>(bind (M9 (a8 v11.2.1 v14) v8.1) (λv15=>(af (an v15) (λ_=>(bT ([],false))) λ_=>(bh ((ab 3 v11.1 1),v11.2.1,v11.2.2.1,v11.2.2.2))))))))))))) λ_=>(lex (v11.2.1,v11.2.2.1,v11.2.2.2)))) (0,v3.1,v3.2.1,(av v5 v3.2.2)) (λv11=>(bh (v11.1,v11.2.1,v11.2.2))) (λv11=>(bT (v11.1,v11.2)))))))))))))))))))) λ_=>(lex v3.1))))
  (s:=((bd n []),m0,[0]))
  (kx:=(λv3=>(b_ 1073741824 (n:Int) (λv4=>(loop (Int×(List Nat)) (List Nat) ((List Nat)×Bool) (λv5=>(af (aO v5.1 v3.length) (λ_=>(ai v3.length v5.1 (λv6=>(bind (Aj (m,f,()) (a8 v3 v6)) (λv7=>(af (an (bm v7.2 0)) (λ_=>(bT ([],false))) λ_=>(ai v5.2.length v5.1 (λv8=>(bh ((ab 3 v5.1 1),(ae v5.2 v8 (bF 7 v7.1)))))))))))) λ_=>(lex v5.2))) (0,(bd v4 0)) (λv5=>(ai v3.length (bq 3 (n:Int) 1) (λv6=>(some (v5,(bm ((a8 v3 v6).length:Int) 0)))))) (λv5=>(some (v5.1,v5.2))))))))
  (kr:=(λv3=>(some (v3.1,v3.2))))
  (λz=>z.1.length=n/\z.2.1.length=n/\a8 z.2.1 0=true/\a8 z.1 0=[]/\(∀x,a8 z.2.1 x=true->Vs (cU code) (eM m f) x (a8 z.1 x))/\(∀x,a8 z.2.1 x=false->a8 z.1 x=[])/\(∀x:Int,x∈z.2.2->0<=x/\x<n/\a8 z.2.1 x.toNat=true)/\
    (∀i,i<n->a8 z.2.1 i=true->(i:Int)∈z.2.2\/∃r,eM m f i (a8 z.1 i)=some r/\∀k,k<(cU code i).length->a8 z.2.1 (a8 (cU code i) k).toNat=true/\a8 z.1 (a8 (cU code i) k).toNat=r)/\2*(n-oH z.2.1)+z.2.2.length<=2*n)
  (λt=>mS (cU code) (eM m f)/\tq (cU code) (eM m f) n t) (λq=>¬mS (cU code) (eM m f)/\q=([],false)) (λz=>2*(n-oH z.2.1)+z.2.2.length) ?_ ?_ ?_
 ·rcases key with⟨t,⟨hR,hT⟩,hk⟩|⟨q,⟨hR,rfl⟩,hk⟩
  ·left;refine⟨hR,t,hT,hk.trans ?_⟩;have qf:=hT.1;have Ns:∀j,xL m (a8 t j):=λj=>by
    by_cases hr:lq (cU code) 0 j
    ·exact To (hT.2.1 j hr)
    ·rw[hT.2.2 j hr];exact⟨λx hx=>(by cases hx),ae5 _⟩
   rw[hb];rw[aV (λk=>((k:Int),Ds m t k++List.replicate (n-k) 0)) n (Ds m t n) ?_ ade ?_ ?_]
   ·rw[show bq 3 (n:Int) 1=((n-1:Nat):Int) by rw[cD ade ade];omega,ak,adh,aG];rfl
   ·rfl
   ·intro k hk;have BE:k<(Ds m t k++List.replicate (n-k) 0).length:=by rw[ado,adz,rG];omega
    have hkt:k<t.length:=ade;have hbk:=hbp (Ns k);have hlk:=(Ns k).2;have ecv:bF 7 (mg m (a8 t k) (a8 t k).length)=(mg m (a8 t k) (a8 t k).length).toNat:=by rw[lV];omega
    rw[qf];simp only[cZ,hk,BE,ao,ads,adA,ak,a7M (Ns k),a9,cE,aeb,ae7,ecv,mz (rG m t k) hk,aU (show k<9223372036854775807 by omega)];rfl
   ·simp only[qf,ba,ao,aep,List.replicate_zero,adP];rfl
  ·right;exact⟨hR,hk⟩
 ·refine⟨e1,qc,(eR 0).2 rfl,e1a 0,λx hx=>by rw[(eR x).1 hx,e1a];exact Vs.here,λx _=>e1a x,λx hx=> ?_,λi hi lZ=> ?_,?_⟩
  ·rw[adF] at hx;subst hx;exact⟨ade,ade,(eR _).2 rfl⟩
  ·left;rw[(eR i).1 lZ];exact adF.2 rfl
  ·simp only[adJ];omega
 ·simp only[adJ];omega
 ·rintro⟨tab,met,st⟩ ⟨I1,I2,I3,I4,I5,I6,I7,I8,I9⟩;dsimp only at I1 I2 I3 I4 I5 I6 I7 I8 I9⊢
  by_cases kY:0<st.length
  ·obtain⟨q,hq⟩:∃q,st.length=q+1:=⟨st.length-1,ade⟩;have kD:a8 st q∈st:=by rw[bz ade];exact adT _
   obtain⟨a1,a2,a3⟩:=I7 _ kD;obtain⟨v,hv⟩:∃v:Nat,a8 st q=v:=⟨(a8 st q).toNat,ade⟩;rw[hv] at a1 a2 a3 kD;rw[adx] at a3;have H9:v<n:=ade;have sb:bq 3 st.length 1=(q:Int):=by rw[cD ade ade];omega
   have qf:(av q st).length=q:=by show(st.take q).length=q;rw[adY];omega
   have hin':=fe v H9;have hll':=n_ v;obtain⟨o,es,eo⟩:=Nv H9 (To (I5 v a3));rw[aD (by rw[aE];exact adf),sb,ak,adh,T.d4,adh,hv,ak,adp H9,ak,adh,es,a9,H8 H9,a9,adx];rw[J8] at es eo;rw[J8];cases hr:eM m f v (a8 tab v) with
   |none=>
    right;right;refine⟨([],false),?_,λhR=>hR.1 v _ (I5 v a3) hr,rfl⟩;rw[aD (c:=an (Option.isSome (none:Option (List Int)))) rfl,join_some];rfl
   |some r=>
    have eor:=eo r hr;subst eor;rw[aC (c:=an (Option.isSome (some o))) rfl,cE,join_some,aC rfl];have hW:=λk hk=>ml (z0:=(tab,met,av q st,false)) (r:=o) I1 I2 hin' k hk
    have W:=hW _ (adw _);have hpa:=λh {k} hk=>OJ (z0:=(tab,met,av q st,false)) (r:=o) I1 I2 hin' h (k:=k) hk
    have hpb:=λh=>OK (z0:=(tab,met,av q st,false)) (r:=o) I1 I2 hin' h
    have WL:=W.l;dsimp only at WL;have a8a:∀k,k<(cU code v).length->True:=λ_ _=>trivial
    have a0l:∀(kx:(List (List Int))×((List Bool)×(List Int))->Option (T.LR (List (List Int)×(List Bool×List Int)) (List (List Int)) (List Nat×Bool))) (kr:List Nat×Bool->Option (T.LR (List (List Int)×(List Bool×List Int)) (List (List Int)) (List Nat×Bool))),
     loop (Int×((List (List Int))×((List Bool)×(List Int)))) ((List (List Int))×((List Bool)×(List Int))) ((List Nat)×Bool) (λv11=>(af (aO v11.1 ((cU code v).length:Int)) (λ_=>(ai (cU code v).length v11.1 (λv12=>(ai v11.2.2.1.length (a8 (cU code v) v12) (λv13=>(af (an (a8 v11.2.2.1 v13)) (λ_=>(bj (aJ v11.2.2.2.length 1) (ai v11.2.1.length (a8 (cU code v) v12) (λv14=>(ai v11.2.2.1.length (a8 (cU code v) v12) (λv15=>(bh ((ab 3 v11.1 1),(ae v11.2.1 v14 o),(ae v11.2.2.1 v15 true),(aw v11.2.2.2 [(a8 (cU code v) v12)]))))))))) λ_=>(ai v11.2.1.length (a8 (cU code v) v12) (λv14=>(bind (M9 (a8 v11.2.1 v14) o) (λv15=>(af (an v15) (λ_=>(bT ([],false))) λ_=>(bh ((ab 3 v11.1 1),v11.2.1,v11.2.2.1,v11.2.2.2))))))))))))) λ_=>(lex (v11.2.1,v11.2.2.1,v11.2.2.2)))) (0,tab,met,(av q st)) kx kr=
     if(List.range (cU code v).length).all (pq (tab,met,av q st,false) o (cU code v))=true then kx ((fill (tab,met,av q st,false) o (cU code v) (cU code v).length).1,(fill (tab,met,av q st,false) o (cU code v) (cU code v).length).2.1,(fill (tab,met,av q st,false) o (cU code v) (cU code v).length).2.2.1) else kr ([],false):=by
     intro kx kr;generalize cU code v=d at hin' hll' hW⊢;rw[fZ (λk=>((k:Int),(fill (tab,met,av q st,false) o d k).1,(fill (tab,met,av q st,false) o d k).2.1,(fill (tab,met,av q st,false) o d k).2.2.1)) d.length (pq (tab,met,av q st,false) o d) ([],false) ((fill (tab,met,av q st,false) o d d.length).1,(fill (tab,met,av q st,false) o d d.length).2.1,(fill (tab,met,av q st,false) o d d.length).2.2.1) ?_ ade ?_ ?_]
     ·rfl
     ·intro k hk;obtain⟨b1,b2⟩:=hin' k hk;have U:=hW k ade;have UL:=U.l;dsimp only at UL;have a0u:∀j,xL m (a8 tab j):=λj=>by
       cases h0:a8 met j with
       |true=>exact To (I5 j h0)
       |false=>rw[I6 j h0];exact⟨λx hx=>(by cases hx),ae5 _⟩
      have hoL:o.length<=1000000:=by
       by_cases hd0:0<d.length
       ·have:=(zU p.om p.ok (d6 v H9) (qI v H9) (To (I5 v a3)) ((J8 v _).trans hr)).2;omega
       ·omega
      unfold pq;rw[show fill (tab,met,av q st,false) o d (k+1)=if a8 (fill (tab,met,av q st,false) o d k).2.1 (a8 d k).toNat=true then fill (tab,met,av q st,false) o d k
       else(ae (fill (tab,met,av q st,false) o d k).1 (a8 d k).toNat o,ae (fill (tab,met,av q st,false) o d k).2.1 (a8 d k).toNat true,(fill (tab,met,av q st,false) o d k).2.2.1++[a8 d k],true) from rfl]
      generalize fill (tab,met,av q st,false) o d k=z at U UL⊢;obtain⟨za,zm,zs,zc⟩:=z;obtain⟨u1,u2⟩:=U.a;have ut:=U.t;dsimp only at u1 u2 UL ut⊢;have hlen:(a8 za (a8 d k).toNat).length<=1000000:=by
       cases h0:a8 met (a8 d k).toNat with
       |true=>
        rw[(ut _).1 h0];have:=(a0u (a8 d k).toNat).2;omega
       |false=>
        cases h1:a8 zm (a8 d k).toNat with
        |true=>rw[(ut _).2.1 h0 h1];exact hoL
        |false=>
         rw[(ut _).2.2 h1];have:=(a0u (a8 d k).toNat).2;omega
      simp only[cZ,hk,ao,ads,adA,ak,aU (show k<9223372036854775807 by omega)];have cm:∀{ρ:Type} (f:Nat->Option ρ),T.ai zm.length (a8 d k) f=f (a8 d k).toNat:=λf=>bE b1 ade f
      have ct:∀{ρ:Type} (f:Nat->Option ρ),T.ai za.length (a8 d k) f=f (a8 d k).toNat:=λf=>bE b1 ade f
      rw[cm]
      by_cases hc:a8 zm (a8 d k).toNat=true
      ·rw[adq (by rw[hc];decide),ct,W5 hlen,a9,hc,adp rfl,Bool.not_true,Bool.false_or]
       by_cases he:a8 za (a8 d k).toNat=o
       ·rw[adq (by rw[adm he];decide),adp (adm he)];rfl
       ·rw[adp (by rw[adl he];rfl),adq (by simpa using he)];rfl
      ·have K3:a8 zm (a8 d k).toNat=false:=by simpa using hc
       rw[adp (by rw[K3];rfl),aY (by rw[ay];omega),ct,cm,K3,adp (by simp),adq (by decide)];rfl
     ·simp only[ba,ao];rfl
    rw[a0l]
    by_cases dj:(List.range (cU code v).length).all (pq (tab,met,av q st,false) o (cU code v))=true
    ·left;rw[adp dj];have hpa':=λ{k} hk=>hpa dj (k:=k) hk
     have Wt:=W.t;have W0:=W.a;dsimp only at Wt W0;refine⟨_,rfl,⟨W0.1,W0.2,W.b 0 I3,((Wt 0).1 I3).trans I4,λx hx=> ?_,λx hx=>((Wt x).2.2 hx).trans (I6 x ?_),λx hx=> ?_,λi hi lZ=> ?_,?_⟩,?_⟩
     ·cases h0:a8 met x with
      |true=>rw[(Wt x).1 h0];exact I5 x h0
      |false=>
       rw[(Wt x).2.1 h0 hx];rcases W.b' x hx with h|⟨⟨k,hk,rfl⟩,-⟩
       ·dsimp only at h;rw[h0] at h;cases h
       ·exact Vs.step v k _ o (I5 v a3) hr hk
     ·cases h0:a8 met x with
      |true=>
       have:=W.b x h0;rw[hx] at this;cases this
      |false=>rfl
     ·rcases W.g' x hx with hx|hx
      ·have:=I7 x (List.mem_of_mem_take hx);exact⟨this.1,this.2.1,W.b _ this.2.2⟩
      ·exact hx
     ·rcases W.b' i lZ with Co|⟨-,Nj⟩
      ·dsimp only at Co;rcases I8 i hi Co with j6|⟨r,K9,j6⟩
       ·rcases oy hq j6 with h3|h3
        ·exact Or.inl (W.g _ h3)
        ·right;have e:i=v:=ade;subst e;refine⟨o,by rw[(Wt i).1 Co];exact hr,λk hk=>⟨W.c k hk,hpa' hk⟩⟩
       ·right;refine⟨r,by rw[(Wt i).1 Co];exact K9,λk hk=>⟨W.b _ (j6 k hk).1,?_⟩⟩;rw[(Wt _).1 (j6 k hk).1];exact(j6 k hk).2
      ·exact Or.inl Nj
     ·dsimp only;omega
     ·dsimp only;omega
    ·right;right;rw[adq dj];obtain⟨k,hk,h1,h2⟩:=hpb dj;refine⟨([],false),rfl,λhR=>h2 ?_,rfl⟩;exact hR.2 _ _ _ (I5 _ h1) (Vs.step v k _ o (I5 v a3) hr hk)
  ·right;left;have ER:st=[]:=aeh ade;subst ER;refine⟨tab,?_,zN fe n0 I1 I3 I4 I5 I6 λi hi lZ=> ?_⟩
   ·rw[aC (by rw[aE];exact adl (by simp))];rfl
   ·rcases I8 i hi lZ with h1|h1
    ·cases h1
    ·exact h1
end Go.Proofs.YtbjcjppphoppfaaGreat.M
