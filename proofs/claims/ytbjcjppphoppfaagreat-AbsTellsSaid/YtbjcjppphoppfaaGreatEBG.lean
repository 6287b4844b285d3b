import Derived.Test.YtbjcjppphoppfaaGreatEBF
set_option linter.all false
namespace Go.Proofs.YtbjcjppphoppfaaGreat.M
open Go.Proofs.YtbjcjppphoppfaaGreat.T hiding a8 ae av aH aw bd bM cC
structure DQ (m:aK) (s:cr):Prop where
 i:0<=s.2.1/\s.2.1<(m.2.2.1.length:Int)
 p:0<=s.2.2.1/\s.2.2.1<((a8 m.2.2.1 s.2.1.toNat).2.2.2.2.1.length:Int)
 a:s.1<18446744073709551616
theorem Pv {m:aK} (hm:oD m) {x:aq} (hf:Fit aP x) (hx:x.1<=268435456):∀(n pc t:Nat) (ret:Int) (acc:List cr),zS x pc t ret acc->(ret=1->1<=pc %256)->(∀s∈acc,DQ m s)->(BJ m x n pc t ret acc).2=0->(BJ m x n pc t ret acc).1.length<=5001/\∀s∈(BJ m x n pc t ret acc).1,DQ m s
 |0,_,_,_,_,_,_,_,_=>⟨by show 0<=5001;omega,λs hs=>by cases hs⟩
 |n+1,pc,t,ret,acc,I,hr,ha,h=>by
  have hl:=hf.2.1.len;have sp:p9 m pc=false->DQ m (Dm m x pc t ret):=λhn=>by
   unfold p9 at hn;simp only[ad',adj] at hn;have it:=I.tt;refine⟨⟨?_,?_⟩,⟨?_,?_⟩,?_⟩
   ·show(0:Int)<=((pc/256-1:Nat):Int);omega
   ·show((pc/256-1:Nat):Int)<_;omega
   ·show(0:Int)<=((pc %256:Nat):Int)-ret;rcases I.rr with h|h
    ·omega
    ·have:=hr h;omega
   ·show((pc %256:Nat):Int)-ret<((a8 m.2.2.1 ((pc/256-1:Nat):Int).toNat).2.2.2.2.1.length:Int);rw[adx];have:=I.rr;omega
   ·show x.1+(t-(cj m pc).toNat)<_;omega
  have ap:p9 m pc=false->∀s∈acc++[Dm m x pc t ret],DQ m s:=λhn s hs=>by
   rcases adC.1 hs with hs|hs
   ·exact ha s hs
   ·rw[adF] at hs;rw[hs];exact sp hn
  unfold BJ at h⊢;cases hs:t9 m x pc t ret acc with
  |inl r=>
   rw[hs] at h;dsimp only at h⊢;unfold t9 at hs;split at hs
   ·injection hs with hs;rw[<-hs] at h;exact absurd h (by decide)
   ·rename_i hn;have uh:p9 m pc=false:=by simpa using hn
    split at hs
    ·injection hs with hs;rw[<-hs] at h;exact absurd h (by decide)
    ·split at hs
     ·injection hs with hs;rw[<-hs] at h;exact absurd h (by decide)
     ·split at hs
      ·injection hs with hs
       rw[<-hs];have:=I.aa;refine⟨?_,ap uh⟩;show(acc++[_]).length<=_;rw[ado,adJ];omega
      ·cases hs
  |inr s=>
   obtain⟨pc',t',ret',acc'⟩:=s;obtain⟨I',ht⟩:=Bk hm hf I hs;rw[hs] at h;dsimp only at h⊢;unfold t9 at hs;split at hs
   ·cases hs
   ·rename_i hn;have uh:p9 m pc=false:=by simpa using hn
    split at hs
    ·cases hs
    ·split at hs
     ·cases hs
     ·rename_i hb;split at hs
      ·cases hs
      ·rename_i hz;injection hs with hs
       injection hs with h1 hs
       injection hs with h2 hs
       injection hs with h3 h4
       refine Pv hm hf hx n pc' t' ret' acc' I' ?_ (by rw[<-h4];exact ap uh) h;intro h5;rw[<-h3] at h5;split at h5
       ·rename_i h6;unfold zV at hb;rw[adm h6,adl hz] at hb;rw[<-h1];simp only[adW,Bool.not_false,aec,not_or,adk] at hb;omega
       ·cases h5
noncomputable def Yw (n:Nat) (l:List aT) (rs:List aq) (a:Nat) (t:Int):GV×Int:=(C1 n l rs a t 3).getD (iP (0,(0,([],([],(false,()))))),0)
theorem a0A {l:List aT} {rs:List aq} (hf:Fit (.sl ca) l) (hr:Fit (.sl aP) rs) {a:Nat} (ha:a<18446744073709551616) (t:Int) {n:Nat} (hn:200<n):C1 n l rs a t 3=some (Yw n l rs a t)/\Tc n l rs a t 3=some (Yw n l rs a t):=by
 obtain⟨v,h1,h2⟩:=UA hf hr ha t 3 hn;have:Yw n l rs a t=v:=by unfold Yw;rw[h1];rfl
 rw[this];exact⟨h1,h2⟩
def xV (m:aK) (s:cr):bY:=a8 m.2.2.1 s.2.1.toNat
def um (m:aK) (s:cr):Nat:=nO (xV m s).2.2.2.2.2.2.1 s.2.2.1 (xV m s).2.2.2.2.2.2.1.length
noncomputable def HP (n:Nat) (m:aK) (rs:List aq) (s:cr) (k:Nat):GV×Int:=Yw n m.1 rs (cP 7 s.1 (bF 7 (24+a8 (nB m (xV m s)) k))) (a8 (xV m s).2.2.2.1 k).2.1
noncomputable def jV (n:Nat) (m:aK) (rs:List aq) (s:cr):Nat->List gJ
 |0=>[]
 |k+1=>if um m s/2^k %2=0 then jV n m rs s k else jV n m rs s k++[((k:Int),((HP n m rs s k).1,()))]
theorem wA (n:Nat) (m:aK) (rs:List aq) (s:cr):∀k,(jV n m rs s k).length<=k
 |0=>adw _
 |k+1=>by
  unfold jV;have:=wA n m rs s k;split
  ·omega
  ·rw[ado,adJ];omega
noncomputable def CK (n:Nat) (m:aK) (rs:List aq) (s:cr) (k:Nat):Bool:=decide (um m s/2^k %2=0)||decide ((HP n m rs s k).2=0)
noncomputable def qR (n:Nat) (m:aK) (rs:List aq) (s:cr):Bool:=(List.range (xV m s).2.2.2.1.length).all (CK n m rs s)
noncomputable def Jt (n:Nat) (m:aK) (rs:List aq) (s:cr):List gJ:=if qR n m rs s=true then jV n m rs s (xV m s).2.2.2.1.length else[]
theorem ux (x y:Nat):cP 7 x y<18446744073709551616:=by
 rw[T.vl];exact Nat.mod_lt _ (by decide)
def fu (m:bf):List aq:=aw [m.2.2.1] m.2.2.2.1
theorem uV (m:bf):(fu m).length=m.2.2.2.1.length+1:=by
 show([m.2.2.1]++m.2.2.2.1).length=_;rw[ado,adJ];omega
theorem Ba {m:bf} (hf:Fit bH m) (h:m.2.2.2.1.length<=16):Fit (.sl aP) (fu m):=by
 obtain⟨h1,h2,h3,h4,h5,h6⟩:=hf;refine⟨by have:=uV m;omega,λx hx=> ?_⟩;rcases adC.1 (show x∈[m.2.2.1]++m.2.2.2.1 from hx) with hx|hx
 ·rw[adF] at hx;rw[hx];exact h3
 ·exact h4.2 x hx
theorem M' {m:bf} (h:m.2.2.2.1.length<=16):Yh m=some (fu m):=by
 unfold Yh;rw[aY (by rw[ay];omega)];rfl
theorem Zw {m:bf} (hf:Fit bH m) (hm:iG m.1=0) (H5:m.2.2.2.1.length<=16) {s:cr} (hs:DQ m.1 s) {n:Nat} (hn:200<n):∃c:Int,Ri n (m,(fu m,())) s=some (Jt n m.1 (fu m) s,c)/\Wv n m s=some (Jt n m.1 (fu m) s,decide (c=0))/\(c=0↔qR n m.1 (fu m) s=true):=by
 have hI:=j7 hm;have hrs:=Ba hf H5;obtain⟨⟨i1,i2⟩,⟨p1,p2⟩,ha⟩:=hs;have hi:s.2.1.toNat<m.1.2.2.1.length:=ade;have ok:=hI.g _ hi;have Nh:Fit bJ m.1:=hf.1;have hFn:Fit iE (a8 m.1.2.2.1 s.2.1.toNat):=Nh.2.2.1.at hi;have wb:nC (a8 m.1.2.2.1 s.2.1.toNat).2.2.2.2.2.2.1:=dN hFn.2.2.2.2.2.2.1;have hv:=N1 wb ok.t.2 ⟨p1,p2⟩;have h16':=ok.s;have X4:=wK m.1 (xV m.1 s);have eR:=λ{k} hk=>AK hI ok (k:=k) hk
 have es:s.2.1=((s.2.1.toNat:Nat):Int):=ade;have ld:=λ{a:Nat} (ha:a<18446744073709551616) t=>a0A Nh.1 hrs ha t hn
 have e57:Ri n (m,(fu m,())) s=if qR n m.1 (fu m) s=true then some (jV n m.1 (fu m) s (xV m.1 s).2.2.2.1.length,0) else some ([],(HP n m.1 (fu m) s (fB (CK n m.1 (fu m) s) (xV m.1 s).2.2.2.1.length)).2):=by
  unfold Ri;dsimp only;rw[bE i1 ade,hv.1,a9,aC cE];rw[bS (λk=>((k:Int),jV n m.1 (fu m) s k)) (xV m.1 s).2.2.2.1.length (CK n m.1 (fu m) s) (λk=>([],(HP n m.1 (fu m) s k).2)) (jV n m.1 (fu m) s (xV m.1 s).2.2.2.1.length) ?_ (by show(xV m.1 s).2.2.2.1.length<_;unfold xV;omega) ?_ ?_]
  ·rfl
  ·rfl
  ·intro k hk _;have Nl:=wA n m.1 (fu m) s k;have hk':k<(a8 m.1.2.2.1 s.2.1.toNat).2.2.2.1.length:=hk;have e0:aR (fW (iV (um m.1 s) k) 1) 0=decide (um m.1 s/2^k %2=0):=by
    rw[ax,T.mV,T.ke,show Nat.land (um m.1 s/2^k) 1=um m.1 s/2^k %2 from Nat.and_one_is_mod _]
   simp only[cZ,hk',ao,ads,adA,T.jv,Int.natCast_nonneg,adx];rw[show nO (a8 m.1.2.2.1 s.2.1.toNat).2.2.2.2.2.2.1 s.2.2.1 (a8 m.1.2.2.1 s.2.1.toNat).2.2.2.2.2.2.1.length=um m.1 s from rfl];unfold CK
   by_cases h0:um m.1 s/2^k %2=0
   ·rw[adp (by rw[e0];exact adm h0),adm h0,adp (Bool.true_or _),aU ade];rw[show jV n m.1 (fu m) s (k+1)=jV n m.1 (fu m) s k by rw[jV,adp h0]];rfl
   ·rw[adq (by rw[e0,adk];exact h0),adl h0,Bool.false_or];rw[U' Nh,adp hm,adi,a9,adx];dsimp only;rw[adq (by rw[cE];decide)];have e62:PJ n (m,(fu m,())) (a8 (a8 m.1.2.2.1 s.2.1.toNat).2.2.2.1 k).2.1 (cP 7 s.1 (bF 7 (24+a8 (nB m.1 (a8 m.1.2.2.1 s.2.1.toNat)) k)))=some (HP n m.1 (fu m) s k):=by
     unfold PJ;rw[(ld (ux _ _) _).1,a9];rfl
    rw[e62,a9]
    by_cases hz:(HP n m.1 (fu m) s k).2=0
    ·rw[adq (by rw[cQ hz];decide),adm hz,adp rfl,aY (by rw[ay];omega),aU ade];rw[show jV n m.1 (fu m) s (k+1)=jV n m.1 (fu m) s k++[((k:Int),((HP n m.1 (fu m) s k).1,()))] by rw[jV,adq h0]];rfl
    ·rw[adp (bG hz),adl hz];rfl
  ·intro _;rw[show(xV m.1 s).2.2.2.1.length=(a8 m.1.2.2.1 s.2.1.toNat).2.2.2.1.length from rfl,ba];rfl
 have e41:Wv n m s=if qR n m.1 (fu m) s=true then some (jV n m.1 (fu m) s (xV m.1 s).2.2.2.1.length,true) else some ([],false):=by
  have hn2:∀{ρ:Type} (k:Option ρ),T.gO 2 k=k:=λk=>by rw[T.e9,adq (by decide)]
  unfold Wv;rw[bE i1 ade,hv.2,a9,es,Tb hI hi,a9,adx];dsimp only;rw[bS (λk=>((k:Int),jV n m.1 (fu m) s k)) (xV m.1 s).2.2.2.1.length (CK n m.1 (fu m) s) (λk=>([],false)) (jV n m.1 (fu m) s (xV m.1 s).2.2.2.1.length) ?_ (by show(xV m.1 s).2.2.2.1.length<_;unfold xV;omega) ?_ ?_]
  ·rfl
  ·rfl
  ·intro k hk _;have Nl:=wA n m.1 (fu m) s k;have hk':k<(a8 m.1.2.2.1 s.2.1.toNat).2.2.2.1.length:=hk;have e0:aR (eV (iV (um m.1 s) k) 2) 0=decide (um m.1 s/2^k %2=0):=by
    rw[ax,T.dR,T.ke]
   simp only[cZ,hk',ao,ads,adA,T.jv,Int.natCast_nonneg,adx,hn2];rw[show nO (a8 m.1.2.2.1 s.2.1.toNat).2.2.2.2.2.2.1 s.2.2.1 (a8 m.1.2.2.1 s.2.1.toNat).2.2.2.2.2.2.1.length=um m.1 s from rfl];unfold CK
   by_cases h0:um m.1 s/2^k %2=0
   ·rw[adp (by rw[e0];exact adm h0),adm h0,adp (Bool.true_or _),aU ade];rw[show jV n m.1 (fu m) s (k+1)=jV n m.1 (fu m) s k by rw[jV,adp h0]];rfl
   ·rw[adq (by rw[e0,adk];exact h0),adl h0,Bool.false_or];rw[ak,adp (by rw[jM];exact hk'),ak,adp hk',M' H5,a9,CU _ hk'];have e75:Tc n m.1.1 (fu m) (cP 7 s.1 (bF 7 (24+a8 (nB m.1 (a8 m.1.2.2.1 s.2.1.toNat)) k))) (a8 (a8 m.1.2.2.1 s.2.1.toNat).2.2.2.1 k).2.1 3=some (HP n m.1 (fu m) s k):=(ld (ux _ _) _).2;rw[e75,a9]
    by_cases hz:(HP n m.1 (fu m) s k).2=0
    ·rw[adq (by rw[cQ hz];decide),adm hz,adp rfl,aY (by rw[ay];omega),aU ade];rw[show jV n m.1 (fu m) s (k+1)=jV n m.1 (fu m) s k++[((k:Int),((HP n m.1 (fu m) s k).1,()))] by rw[jV,adq h0]];rfl
    ·rw[adp (bG hz),adl hz];rfl
  ·intro _;rw[show(xV m.1 s).2.2.2.1.length=(a8 m.1.2.2.1 s.2.1.toNat).2.2.2.1.length from rfl,ba];rfl
 rw[e57,e41];unfold Jt
 by_cases hA:qR n m.1 (fu m) s=true
 ·rw[adp hA,adp hA,adp hA];exact⟨0,rfl,rfl,λ_=>hA,λ_=>rfl⟩
 ·rw[adq hA,adq hA,adq hA];have hb:=(vJ hA).2;generalize fB (CK n m.1 (fu m) s) (xV m.1 s).2.2.2.1.length=j at hb⊢;unfold CK at hb;rw[ad',adj,adj] at hb;exact⟨_,rfl,by rw[adl hb.2],λh=>absurd h hb.2,λh=>absurd h hA⟩
abbrev view (m:bf):fC:=(m,(fu m,()))
noncomputable def NQ (n:Nat) (m:bf) (s:cr):Int:=((Ri n (view m) s).map (·.2)).getD 0
theorem MY {m:bf} (hf:Fit bH m) (hm:iG m.1=0) (H5:m.2.2.2.1.length<=16) {s:cr} (hs:DQ m.1 s) {n:Nat} (hn:200<n):Ri n (view m) s=some (Jt n m.1 (fu m) s,NQ n m s)/\Wv n m s=some (Jt n m.1 (fu m) s,qR n m.1 (fu m) s)/\(NQ n m s=0↔qR n m.1 (fu m) s=true):=by
 obtain⟨c,h1,h2,h3⟩:=Zw hf hm H5 hs hn;have:NQ n m s=c:=by unfold NQ view;rw[h1];rfl
 rw[this];refine⟨h1,?_,h3⟩;rw[h2];congr 2;cases hA:qR n m.1 (fu m) s with
 |true=>exact adm (h3.2 hA)
 |false=>exact adl λh=>by rw[h3.1 h] at hA;cases hA
noncomputable def At (n:Nat) (m:bf) (l:List cr):Nat->List cW
 |0=>[]
 |k+1=>At n m l k++[((a8 l k).2.1,((a8 l k).2.2.1,((a8 l k).2.2.2.1,(Jt n m.1 (fu m) (a8 l k),()))))]
theorem qA (n:Nat) (m:bf) (l:List cr):∀k,(At n m l k).length=k
 |0=>rfl
 |k+1=>by rw[At,ado,qA n m l k];rfl
noncomputable def J4 (n:Nat) (m:bf) (l:List cr):Bool:=(List.range l.length).all λk=>qR n m.1 (fu m) (a8 l k)
theorem Zb {m:bf} (hf:Fit bH m) (hm:iG m.1=0) (H5:m.2.2.2.1.length<=16) {l:List cr} (hl:l.length<=5001) (hs:∀s∈l,DQ m.1 s) {n:Nat} (hn:200<n):∃c:Int,Yb n (view m) l=some (if J4 n m l=true then At n m l l.length else[],c)/\(c=0↔J4 n m l=true):=by
 unfold Yb;rw[bS (λk=>((k:Int),At n m l k)) l.length (λk=>qR n m.1 (fu m) (a8 l k)) (λk=>([],NQ n m (a8 l k))) (At n m l l.length) ?_ ade ?_ ?_]
 ·show∃c:Int,(if J4 n m l=true then _ else _)=_/\_
  by_cases hA:J4 n m l=true
  ·rw[adp hA,adp hA];exact⟨0,rfl,λ_=>hA,λ_=>rfl⟩
  ·rw[adq hA,adq hA];obtain⟨Tp,uc⟩:=vJ hA;have:=(MY hf hm H5 (hs (a8 l (fB (λk=>qR n m.1 (fu m) (a8 l k)) l.length)) (by rw[bz Tp];exact adT Tp)) hn).2.2;refine⟨_,rfl,λh=> ?_,λh=>absurd h hA⟩;rw[this.1 h] at uc;cases uc
 ·rfl
 ·intro k hk _;obtain⟨h1,h2,h3⟩:=MY hf hm H5 (hs (a8 l k) (by rw[bz hk];exact adT hk)) hn;simp only[cZ,hk,ao,ads,adA,ak,h1,a9]
  by_cases hz:qR n m.1 (fu m) (a8 l k)=true
  ·rw[adq (by rw[cQ (h3.2 hz)];decide),adp hz,aY (by rw[ay,qA];omega),aU ade];rfl
  ·rw[adp (bG λh=>hz (h3.1 h)),adq hz];rfl
 ·intro _;rw[ba];rfl
def ET (l:List cr) (a:Nat) (i:Nat):Bool:= !decide ((a8 l i).1=a)
def RP (l:List cr) (a:Nat):Int:=if(List.range l.length).all (ET l a)=true then-1 else((fB (ET l a) l.length:Nat):Int)
theorem He {ρ:Type} {l:List cr} (hl:l.length<=5001) (a:Nat) {kx:Unit->Option ρ} {kr:Int->Option ρ}:loop Int Unit Int (λv3=>(af (aO v3 l.length) (λ_=>(T.ai l.length v3 (λv4=>(af (aR (a8 l v4).1 a) (λ_=>(bT v3)) λ_=>(bh (ab 3 v3 1)))))) λ_=>(lex ()))) 0 kx kr=if(List.range l.length).all (ET l a)=true then kx () else kr ((fB (ET l a) l.length:Nat):Int):=by
 rw[bS (λk=>(k:Int)) l.length (ET l a) (λk=>(k:Int)) () ?_ ade ?_ ?_]
 ·rfl
 ·intro k hk _;simp only[cZ,hk,ao,ads,adA,ak,ax,aU (show k<9223372036854775807 by omega)]
  by_cases h:(a8 l k).1=a
  ·rw[adp (adm h),adq (by unfold ET;rw[adm h];decide)];rfl
  ·rw[adq (by rw[adk];exact h),adp (by unfold ET;rw[adl h];rfl)];rfl
 ·intro _;rw[ba];rfl
theorem ZM {l:List cr} (hl:l.length<=5001) (a:Nat):f78 l a=some (RP l a):=by
 unfold f78 RP;rw[He hl a];split<;>rfl
def wdB (t:aT):Bool:=decide (t.1=1)||(decide (t.1=2)||decide (t.1=4))
theorem V1 (t:aT):KQ t=some (wdB t):=by
 unfold KQ wdB;simp only[ax,bR,join_some]
def y0 (m:aK) (i:Int) (w:Bool):Bool:=
 decide (i<(m.2.2.1.length:Int))&&(decide ((a8 m.2.2.1 i.toNat).2.2.1= -1)&&(if(a8 m.2.2.1 i.toNat).2.1=0 then !w else if(a8 m.2.2.1 i.toNat).2.1=1 then w&&wdB (a8 m.1 (a8 (a8 m.2.2.1 i.toNat).2.2.2.1 0).2.1.toNat) else false))
theorem ZA {m:bf} (hm:oD m.1) {i:Int} (h0:0<=i) (w:Bool):Zz (view m) i w=some (y0 m.1 i w):=by
 unfold Zz y0;dsimp only
 by_cases hi:i<(m.1.2.2.1.length:Int)
 ·have ok:=hm.g i.toNat ade;rw[aC (by rw[aN];exact adg),bE h0 hi,adm hi,adW]
  by_cases hr:(a8 m.1.2.2.1 i.toNat).2.2.1= -1
  ·rw[aD (by rw[aG];exact adm hr),adm hr,adW]
   by_cases K6:(a8 m.1.2.2.1 i.toNat).2.1=0
   ·rw[aD (by rw[aG];exact adm K6),adp K6];cases w with
    |false=>rw[aD (c:=an false) rfl,join_some];rfl
    |true=>rw[aC (c:=an true) rfl,aC (by rw[aG];exact adg),join_some];rfl
   ·rw[aC (by rw[aG];exact adl K6),adq K6]
    by_cases K7:(a8 m.1.2.2.1 i.toNat).2.1=1
    ·rw[aD (by rw[aG];exact adm K7),adp K7];cases w with
     |false=>rw[aC (c:=false) rfl,join_some];rfl
     |true=>
      have hs:=ok.p;have hd:=ok.d 0 ade;rw[aD (c:=true) rfl,bE (by decide) ade,show(0:Int).toNat=0 from rfl,bE hd.1 hd.2,V1,a9,join_some];rfl
    ·rw[aC (by rw[aG];exact adl K7),adq K7,join_some]
  ·rw[aC (by rw[aG];exact adl hr),adl hr,Bool.false_and,join_some]
 ·rw[aD (by rw[aN];exact adf),adl hi,Bool.false_and]
theorem Jo {m:aK} (hm:oD m) {i:Int} (h0:0<=i) (w:Bool):(af (cB m.2.2.1.length i) (λ_=>(some true)) λ_=>(bind (Wx m i) (λv6=>(af (an v6) (λ_=>(some true)) λ_=>(T.ai m.2.2.1.length i (λv7=>(some (an (E4 w (bm (a8 m.2.2.1 v7).2.1 1))))))))):Option Bool)=some (!y0 m i w):=by
 unfold y0 Wx
 by_cases hi:i<(m.2.2.1.length:Int)
 ·have ok:=hm.g i.toNat ade;rw[aC (by rw[aN];exact adg),bE h0 hi,adm hi,adW]
  by_cases hr:(a8 m.2.2.1 i.toNat).2.2.1= -1
  ·rw[aD (by rw[aG];exact adm hr),adm hr,adW]
   by_cases K6:(a8 m.2.2.1 i.toNat).2.1=0
   ·rw[aD (by rw[aG];exact adm K6),adp K6,join_some,a9,aC (c:=an true) rfl,bE h0 hi,aG,adg];rw[aA,bg];cases w<;>rfl
   ·rw[aC (by rw[aG];exact adl K6),adq K6]
    by_cases K7:(a8 m.2.2.1 i.toNat).2.1=1
    ·have hs:=ok.p;have hd:=ok.d 0 ade;rw[aD (by rw[aG];exact adm K7),adp K7,bE (by decide) ade,show(0:Int).toNat=0 from rfl,bE hd.1 hd.2,E9,a9,join_some,a9];show(af (an (wdB _)) _ _:Option Bool)=_;cases hw:wdB (a8 m.1 (a8 (a8 m.2.2.1 i.toNat).2.2.2.1 0).2.1.toNat) with
     |false=>rw[aD (c:=an false) rfl];cases w<;>rfl
     |true=>rw[aC (c:=an true) rfl,bE h0 hi,aG,adm K7,aA,bg];cases w<;>rfl
    ·rw[aC (by rw[aG];exact adl K7),adq K7,join_some,a9,aD (c:=an false) rfl];rfl
  ·rw[aC (by rw[aG];exact adl hr),adl hr,Bool.false_and,join_some,a9,aD (c:=an false) rfl];rfl
 ·rw[aD (by rw[aN];exact adf),adl hi,Bool.false_and];rfl
theorem NK {m:aK} (hm:oD m) {i:Int} (h0:0<=i) {w:Bool} (h:y0 m i w=true):i<(m.2.2.1.length:Int)/\(w=true->1<=(a8 m.2.2.1 i.toNat).2.2.2.1.length):=by
 unfold y0 at h;rw[adr,adr,adk] at h;obtain⟨h1,h2,h3⟩:=h;have ok:=hm.g i.toNat ade;refine⟨h1,λhw=> ?_⟩;subst hw;have:=ok.p;split at h3
 ·cases h3
 ·split at h3
  ·omega
  ·cases h3
def m_ (x1:Nat) (L:List bW):Nat->Nat
 |0=>x1
 |k+1=>(a8 L k).1
noncomputable def SP (n:Nat) (m:bf) (d:bW) (a:Nat):GV×Int:=Yw n m.1.1 (fu m) (cP 7 a 32) (a8 (a8 m.1.2.2.1 d.2.2.1.toNat).2.2.2.1 0).2.1
noncomputable def Qa (n:Nat) (m:bf) (l:List cr) (d:bW) (a:Nat):cq:=(RP l d.2.1,(d.2.2.1,(d.2.2.2.1,((if d.2.2.2.1=true then(SP n m d a).1 else iP (0,(0,([],([],(false,())))))),()))))
noncomputable def KH (n:Nat) (m:bf) (l:List cr) (x1:Nat) (L:List bW):Nat->List cq
 |0=>[]
 |k+1=>KH n m l x1 L k++[Qa n m l (a8 L k) (m_ x1 L k)]
theorem A5 (n:Nat) (m:bf) (l:List cr) (x1:Nat) (L:List bW):∀k,(KH n m l x1 L k).length=k
 |0=>rfl
 |k+1=>by rw[KH,ado,A5 n m l x1 L k];rfl
noncomputable def u7 (n:Nat) (m:bf) (l:List cr) (d:bW) (a:Nat):Bool:=(!(List.range l.length).all (ET l d.2.1)&&y0 m.1 d.2.2.1 d.2.2.2.1)&&(!d.2.2.2.1||decide ((SP n m d a).2=0))
noncomputable def Q9 (n:Nat) (m:bf) (l:List cr) (d:bW) (a:Nat):Int:=if(!(List.range l.length).all (ET l d.2.1)&&y0 m.1 d.2.2.1 d.2.2.2.1)=true then(SP n m d a).2 else 36
theorem UW {n:Nat} {m:bf} {l:List cr} {d:bW} {a:Nat} (h:u7 n m l d a=false):Q9 n m l d a≠0:=by
 unfold u7 at h;unfold Q9;split
 ·rename_i h1;rw[h1,adW,ad',adj] at h;exact h.2
 ·decide
noncomputable def dfA (n:Nat) (m:bf) (l:List cr) (x1:Nat) (L:List bW):Bool:=(List.range L.length).all λk=>u7 n m l (a8 L k) (m_ x1 L k)
theorem Zd {m:bf} (hf:Fit bH m) (hm:iG m.1=0) (H5:m.2.2.2.1.length<=16) {l:List cr} (hl:l.length<=5001) {a:Nat} (ha:a<18446744073709551616) {n:Nat} (hn:200<n):∃(r:List cq) (c:Int),Yc n (view m) a l=some (r,c)/\f42 n m a l=some (r,decide (c=0))/\(c≠0->r=[]):=by
 have hI:=j7 hm;have hrs:=Ba hf H5;have ld:=λ{a:Nat} (ha:a<18446744073709551616) t=>a0A hf.1.1 hrs ha t hn
 obtain⟨r,h1,h2,h3⟩:=Zy hf.2.2.1 ha;unfold Yc f42;dsimp only;rw[h1,h2,a9,a9]
 by_cases h0:r.2=0
 ·obtain⟨RI,K9⟩:=h3 h0;rw[aC (cQ h0),aC (cQ h0)];have key:∀(k:Nat),k<r.1.length->0<=(a8 r.1 k).2.2.1:=λk hk=>(K9 _ (by rw[bz hk];exact adT hk)).1
  rw[bS (λk=>(m_ a r.1 k,(k:Int),KH n m l a r.1 k)) r.1.length (λk=>u7 n m l (a8 r.1 k) (m_ a r.1 k)) (λk=>([],Q9 n m l (a8 r.1 k) (m_ a r.1 k))) (KH n m l a r.1 r.1.length) ?_ ade ?_ ?_];rotate_left
  ·rfl
  ·intro k hk _;have Nl:=A5 n m l a r.1 k;simp only[cZ,hk,ao (aO (k:Int) r.1.length),ads,adA,ak];rw[aD rfl,He hl]
   by_cases hx:(List.range l.length).all (ET l (a8 r.1 k).2.1)=true
   ·have e:u7 n m l (a8 r.1 k) (m_ a r.1 k)=false:=by unfold u7;rw[hx];rfl
    have e':Q9 n m l (a8 r.1 k) (m_ a r.1 k)=36:=by unfold Q9;rw[hx];rfl
    rw[adp hx,aD (c:=aO (-1) 0) (by rw[aE];rfl),join_some,aD (c:=true) rfl,adq (by rw[e];decide),e'];rfl
   ·have Tr:RP l (a8 r.1 k).2.1=((fB (ET l (a8 r.1 k).2.1) l.length:Nat):Int):=by unfold RP;rw[adq hx]
    have Ny:(List.range l.length).all (ET l (a8 r.1 k).2.1)=false:=by simpa using hx
    rw[adq hx,aC (by rw[aE];exact adg),ZA hI (key k hk),a9,join_some];cases hw:y0 m.1 (a8 r.1 k).2.2.1 (a8 r.1 k).2.2.2.1 with
    |false=>
     have e:u7 n m l (a8 r.1 k) (m_ a r.1 k)=false:=by unfold u7;rw[Ny,hw];rfl
     have e':Q9 n m l (a8 r.1 k) (m_ a r.1 k)=36:=by unfold Q9;rw[Ny,hw];rfl
     rw[aD (c:=an false) rfl,adq (by rw[e];decide),e'];rfl
    |true=>
     obtain⟨w1,w2⟩:=NK hI (key k hk) hw;rw[aC (c:=an true) rfl];cases oO:(a8 r.1 k).2.2.2.1 with
     |false=>
      have e:u7 n m l (a8 r.1 k) (m_ a r.1 k)=true:=by unfold u7;rw[Ny,hw,oO];rfl
      rw[aC (c:=false) rfl,adp e,aY (by rw[ay];omega),aU ade];show some _=some (T.LR.ok (m_ a r.1 (k+1),((k+1:Nat):Int),KH n m l a r.1 k++[Qa n m l (a8 r.1 k) (m_ a r.1 k)]));unfold Qa;rw[oO,adq (by decide),Tr];rfl
     |true=>
      rw[oO] at w2;have hd:=(hI.g (a8 r.1 k).2.2.1.toNat (by have:=key k hk;omega)).d 0 (by have:=w2 rfl;omega);rw[aD (c:=true) rfl,bE (key k hk) w1,bE (by decide) (by have:=w2 rfl;omega),show(0:Int).toNat=0 from rfl];have e62:PJ n (view m) (a8 (a8 m.1.2.2.1 (a8 r.1 k).2.2.1.toNat).2.2.2.1 0).2.1 (cP 7 (m_ a r.1 k) 32)=some (SP n m (a8 r.1 k) (m_ a r.1 k)):=by
       unfold PJ view;dsimp only;rw[(ld (ux _ _) _).1,a9];rfl
      rw[e62,a9]
      by_cases hz:(SP n m (a8 r.1 k) (m_ a r.1 k)).2=0
      ·have e:u7 n m l (a8 r.1 k) (m_ a r.1 k)=true:=by unfold u7;rw[Ny,hw,oO,adm hz];rfl
       rw[aC (cQ hz),adp e,aY (by rw[ay];omega),aU ade];show some _=some (T.LR.ok (m_ a r.1 (k+1),((k+1:Nat):Int),KH n m l a r.1 k++[Qa n m l (a8 r.1 k) (m_ a r.1 k)]));unfold Qa;rw[oO,adp rfl,Tr];rfl
      ·have e:u7 n m l (a8 r.1 k) (m_ a r.1 k)=false:=by unfold u7;rw[Ny,hw,oO,adl hz];rfl
       have e':Q9 n m l (a8 r.1 k) (m_ a r.1 k)=(SP n m (a8 r.1 k) (m_ a r.1 k)).2:=by unfold Q9;rw[Ny,hw];rfl
       rw[aD (bG hz),adq (by rw[e];decide),e'];rfl
  ·intro _;rw[ba];rfl
  rw[bS (λk=>(m_ a r.1 k,(k:Int),KH n m l a r.1 k)) r.1.length (λk=>u7 n m l (a8 r.1 k) (m_ a r.1 k)) (λk=>([],false)) (KH n m l a r.1 r.1.length) ?_ ade ?_ ?_];rotate_left
  ·rfl
  ·intro k hk _;have Nl:=A5 n m l a r.1 k;simp only[cZ,hk,ads,adA,ak];rw[aD rfl,ZM hl,a9]
   by_cases hx:(List.range l.length).all (ET l (a8 r.1 k).2.1)=true
   ·have e:u7 n m l (a8 r.1 k) (m_ a r.1 k)=false:=by unfold u7;rw[hx];rfl
    have Tr:RP l (a8 r.1 k).2.1= -1:=by unfold RP;rw[adp hx]
    rw[Tr,aD (c:=aO (-1) 0) (by rw[aE];rfl),join_some,aD (c:=true) rfl,adq (by rw[e];decide)];rfl
   ·have Tr:RP l (a8 r.1 k).2.1=((fB (ET l (a8 r.1 k).2.1) l.length:Nat):Int):=by unfold RP;rw[adq hx]
    have Ny:(List.range l.length).all (ET l (a8 r.1 k).2.1)=false:=by simpa using hx
    rw[Tr,aC (by rw[aE];exact adg),Jo hI (key k hk),join_some];cases hw:y0 m.1 (a8 r.1 k).2.2.1 (a8 r.1 k).2.2.2.1 with
    |false=>
     have e:u7 n m l (a8 r.1 k) (m_ a r.1 k)=false:=by unfold u7;rw[Ny,hw];rfl
     rw[aD (c:= !false) rfl,adq (by rw[e];decide)];rfl
    |true=>
     obtain⟨w1,w2⟩:=NK hI (key k hk) hw;rw[aC (c:= !true) rfl];cases oO:(a8 r.1 k).2.2.2.1 with
     |false=>
      have e:u7 n m l (a8 r.1 k) (m_ a r.1 k)=true:=by unfold u7;rw[Ny,hw,oO];rfl
      rw[aC (c:=false) rfl,adp e,aY (by rw[ay];omega),aU ade];show some _=some (T.LR.ok (m_ a r.1 (k+1),((k+1:Nat):Int),KH n m l a r.1 k++[Qa n m l (a8 r.1 k) (m_ a r.1 k)]));unfold Qa;rw[oO,adq (by decide),Tr];rfl
     |true=>
      rw[oO] at w2;rw[aD (c:=true) rfl,bE (key k hk) w1,bE (by decide) (by have:=w2 rfl;omega),show(0:Int).toNat=0 from rfl,M' H5,a9];have e75:Tc n m.1.1 (fu m) (cP 7 (m_ a r.1 k) 32) (a8 (a8 m.1.2.2.1 (a8 r.1 k).2.2.1.toNat).2.2.2.1 0).2.1 3=some (SP n m (a8 r.1 k) (m_ a r.1 k)):=(ld (ux _ _) _).2;rw[e75,a9]
      by_cases hz:(SP n m (a8 r.1 k) (m_ a r.1 k)).2=0
      ·have e:u7 n m l (a8 r.1 k) (m_ a r.1 k)=true:=by unfold u7;rw[Ny,hw,oO,adm hz];rfl
       rw[aC (cQ hz),adp e,aY (by rw[ay];omega),aU ade];show some _=some (T.LR.ok (m_ a r.1 (k+1),((k+1:Nat):Int),KH n m l a r.1 k++[Qa n m l (a8 r.1 k) (m_ a r.1 k)]));unfold Qa;rw[oO,adp rfl,Tr];rfl
      ·have e:u7 n m l (a8 r.1 k) (m_ a r.1 k)=false:=by unfold u7;rw[Ny,hw,oO,adl hz];rfl
       rw[aD (bG hz),adq (by rw[e];decide)];rfl
  ·intro _;rw[ba];rfl
  show∃r' c,(if dfA n m l a r.1=true then _ else _)=_/\(if dfA n m l a r.1=true then _ else _)=_/\_
  by_cases hA:dfA n m l a r.1=true
  ·rw[adp hA,adp hA];exact⟨_,0,rfl,rfl,λh=>absurd rfl h⟩
  ·rw[adq hA,adq hA];have qd:=UW (vJ hA).2;exact⟨[],_,rfl,by rw[adl qd],λ_=>rfl⟩
 ·rw[aD (bG h0),aD (bG h0)];exact⟨[],r.2,rfl,by rw[adl h0],λ_=>rfl⟩
theorem HK {m:bf} (h:PY m) {i:Nat} (hi:i<(fu m).length):ko (a8 (fu m) i)=0/\(a8 (fu m) i).2.1.length<=16384/\((i=0/\(a8 (fu m) i).1=65536)\/(1<=i/\i<=16/\(a8 (fu m) i).1=16777216*i/\(a8 (fu m) i).2.1.length<=4096)):=by
 rw[uV] at hi;cases i with
 |zero=>
  obtain⟨h0,h1,h2⟩:=jI h.b;exact⟨h0,h2,Or.inl ⟨rfl,h1⟩⟩
 |succ i=>
  have hr:=h.r;obtain⟨f1,f2⟩:=h.f i ade;obtain⟨g0,g1,g2,g3,g4,g5⟩:=pD f1;have e:a8 (fu m) (i+1)=a8 m.2.2.2.1 i:=rfl;rw[e];unfold dS at f2;exact⟨g0,ade,Or.inr ⟨ade,ade,f2,g4⟩⟩
theorem a0D {m:bf} (h:PY m):fO (fu m)=0:=by
 have hr:=h.r;have hl:=uV m;unfold fO;rw[adi,adp,adp]
 ·rw[adE];intro i hi;rw[adL] at hi;unfold BY;rw[adE];intro j hj;rw[adL] at hj;obtain⟨a0,a1,a2⟩:=HK h hi;obtain⟨b0,b1,b2⟩:=HK h (i:=j) ade;unfold HB;rw[adn,ae6,ae6,ae6,adj,adj,adj,adj];omega
 ·rw[adE];intro i hi;rw[adL] at hi;exact adm (HK h hi).1
def y9 (m:bf) (a ln:Nat):List Nat×Bool:=if ln=0 then([],true) else if a %8=0/\hasB (fu m) a ln=true then(u6 (a8 (fu m) (nj (fu m) a ln)) a ln,true) else([],false)
theorem ZC {m:bf} (hf:Fit bH m) (h:PY m) {a ln:Nat} (ha:a<18446744073709551616) (hn:ln<=64):(∃c:Int,f64 (view m) a ln=some ((y9 m a ln).1,c)/\(c=0↔(y9 m a ln).2=true))/\ZN m a ln=some (y9 m a ln):=by
 have hr:=h.r;have hl:=uV m;have h0:=a0D h;have DM:∀{ρ:Type} (k:Option ρ),T.gO 8 k=k:=λk=>by rw[T.e9,adq (by decide)]
 unfold f64 ZN view;dsimp only
 by_cases hz:ln=0
 ·have e:y9 m a ln=([],true):=by unfold y9;rw[adp hz]
  rw[e,aD (by rw[ax];exact adm hz),aD (by rw[ax];exact adm hz)];exact⟨⟨0,rfl,λ_=>rfl,λ_=>rfl⟩,rfl⟩
 ·have ef:xW (fu m) a (ln:Int)=if hasB (fu m) a (ln:Int)=true then((nj (fu m) a (ln:Int):Int),0) else(0,6):=by
   unfold xW;rw[adp h0,adi]
  have et:ki (fu m) a (ln:Int)=if a %8=0/\hasB (fu m) a (ln:Int)=true then(a8 (fu m) (nj (fu m) a (ln:Int)),true) else((0,[],()),false):=by
   unfold ki;rw[show max (ln:Int) 1=(ln:Int) by omega]
  have hq:aR ln 0=false:=by rw[ax];exact adl hz
  rw[aC (c:=aR ln 0) hq,aC (c:=aR ln 0) hq,DM,gk (show ln<9223372036854775808 by omega),M' ade,a9,Ea h0 ha,a9,et,T.dR]
  by_cases h8:a %8=0
  ·rw[aC (by rw[aA,ax,adm h8];rfl),A9 ade ha,a9,ef]
   by_cases hh:hasB (fu m) a (ln:Int)=true
   ·obtain⟨q1,q2⟩:=nY hh;obtain⟨b0,b1,b2⟩:=HK h q1;have q3:=fG q2;have b3:(a8 (fu m) (nj (fu m) a (ln:Int))).2.1.length<=5000:=((Ba hf ade).at q1).2.1.len;have e:y9 m a ln=(u6 (a8 (fu m) (nj (fu m) a ln)) a ln,true):=by unfold y9;rw[adq hz,adp ⟨h8,hh⟩]
    rw[adp hh,adp ⟨h8,hh⟩,aC cE,ak,adp q1,E7 b0 ade ha q3.1 ade,a9,e];rw[aC (c:=an true) rfl,DM,aA,ax,adm h8,join_some,aC (c:= !true) rfl,La ade ade ade q3.1 ade,a9];exact⟨⟨0,rfl,λ_=>rfl,λ_=>rfl⟩,rfl⟩
   ·have e:y9 m a ln=([],false):=by unfold y9;rw[adq hz,adq λh=>hh h.2]
    rw[adq hh,adq λh=>hh h.2,aD (bG (show(6:Int)≠0 by decide)),aD (c:=an false) rfl,join_some,aD (c:=true) rfl,e];exact⟨⟨6,rfl,λh=>absurd h (by decide),λh=>by cases h⟩,rfl⟩
  ·have e:y9 m a ln=([],false):=by unfold y9;rw[adq hz,adq λh=>h8 h.1]
   rw[aD (by rw[aA,ax,adl h8];rfl),adq λh=>h8 h.1,aD (c:=an false) rfl,join_some,aD (c:=true) rfl,e];exact⟨⟨36,rfl,λh=>absurd h (by decide),λh=>by cases h⟩,rfl⟩
noncomputable def YD (m:bf) (a ln:Nat):Int:=((f64 (view m) a ln).map (·.2)).getD 0
theorem M_ {m:bf} (hf:Fit bH m) (h:PY m) {a ln:Nat} (ha:a<18446744073709551616) (hn:ln<=64):f64 (view m) a ln=some ((y9 m a ln).1,YD m a ln)/\(YD m a ln=0↔(y9 m a ln).2=true)/\ZN m a ln=some (y9 m a ln):=by
 obtain⟨⟨c,h1,h2⟩,h3⟩:=ZC hf h ha hn;have:YD m a ln=c:=by unfold YD;rw[h1];rfl
 rw[this];exact⟨h1,h2,h3⟩
noncomputable def wR (m:bf) (p:bL):Nat×(Nat×(Int×(List Nat×(Bool×(Nat×List GV))))):=
 if p.2.1=1\/p.2.1=4 then(p.2.1,2,dH 3 p.2.2.1,[],false,p.2.2.2.2.1,[]) else if p.2.1=2 then(p.2.1,1,dH 3 p.2.2.1,[],false,p.2.2.2.2.1,[]) else if p.2.1=3 then(p.2.1,3,0,(y9 m p.2.2.1 p.2.2.2.1).1,false,p.2.2.2.2.1,[]) else(p.2.1,0,0,[],false,p.2.2.2.2.1,[])
noncomputable def OF (m:bf) (p:bL):c9:=((wR m p).1,(iP ((wR m p).2.1,((wR m p).2.2.1,((wR m p).2.2.2.1,((wR m p).2.2.2.2.2.2,((wR m p).2.2.2.2.1,()))))),((wR m p).2.2.2.2.2.1,())))
def y8 (m:bf) (p:bL):Bool:= !decide (p.2.1=3)||(y9 m p.2.2.1 p.2.2.2.1).2
noncomputable def AV (m:bf) (L:List bL):Nat->List c9
 |0=>[]
 |k+1=>AV m L k++[OF m (a8 L k)]
theorem AW (m:bf) (L:List bL):∀k,(AV m L k).length=k
 |0=>rfl
 |k+1=>by rw[AV,ado,AW m L k];rfl
theorem a3j {p:bL} (h:uw p=true) (h3:p.2.1=3):p.2.2.2.1<=64:=by
 unfold uw at h;rw[adr,adr] at h;have:=h.1;rw[h3,adq (by decide),adq (by decide),adq (by decide),adp rfl,adk] at this;exact this
theorem Zf {m:bf} (hf:Fit bH m) (h:PY m) {a:Nat} (ha:a<18446744073709551616):∃(r:List c9) (c:Int),f32 (view m) a=some (r,c)/\f43 m a=some (r,decide (c=0)):=by
 obtain⟨r,h1,h2,h3⟩:=ZB hf.2.2.1 ha;have hbb:=kG hf.2.2.1.2.1;unfold f32 f43;dsimp only;rw[h1,h2,a9,a9]
 by_cases h0:r.2=0
 ·obtain⟨RI,K9⟩:=h3 h0;rw[aC (cQ h0),aC (cQ h0)];have key:∀k,k<r.1.length->(a8 r.1 k).2.1=3->(a8 r.1 k).2.2.1<18446744073709551616/\(a8 r.1 k).2.2.2.1<=64:=λk hk h3=>by
   obtain⟨b,e,hv⟩:=K9 k hk;rw[e] at h3⊢;exact⟨mE hbb _,a3j hv h3⟩
  rw[bS (λk=>((k:Int),AV m r.1 k)) r.1.length (λk=>y8 m (a8 r.1 k)) (λk=>([],YD m (a8 r.1 k).2.2.1 (a8 r.1 k).2.2.2.1)) (AV m r.1 r.1.length) ?_ ade ?_ ?_];rotate_left
  ·rfl
  ·intro k hk _;have Nl:=AW m r.1 k;have ku:=key k hk;have stp:AV m r.1 (k+1)=AV m r.1 k++[OF m (a8 r.1 k)]:=rfl;simp only[cZ,hk,ads,adA,ak];generalize a8 r.1 k=p at ku stp⊢;rw[aD rfl,ax,ax,bR,join_some]
   by_cases J6:p.2.1=1\/p.2.1=4
   ·have e:wR m p=(p.2.1,2,dH 3 p.2.2.1,[],false,p.2.2.2.2.1,[]):=by unfold wR;rw[adp J6]
    have eo:y8 m p=true:=by unfold y8;rw[adg];rfl
    rw[aD (by simpa using J6)];show T.bj (aJ (AV m r.1 k).length 1) _=_;rw[adp eo,aY (by rw[ay];omega),aU ade,stp];unfold OF;rw[e];rfl
   ·rw[aC (by simpa using J6)]
    by_cases h2':p.2.1=2
    ·have e:wR m p=(p.2.1,1,dH 3 p.2.2.1,[],false,p.2.2.2.2.1,[]):=by unfold wR;rw[adq J6,adp h2']
     have eo:y8 m p=true:=by unfold y8;rw[adg];rfl
     rw[aD (by rw[ax];exact adm h2')];show T.bj (aJ (AV m r.1 k).length 1) _=_;rw[adp eo,aY (by rw[ay];omega),aU ade,stp];unfold OF;rw[e];rfl
    ·rw[aC (by rw[ax];exact adl h2')]
     by_cases h3':p.2.1=3
     ·have e:wR m p=(p.2.1,3,0,(y9 m p.2.2.1 p.2.2.2.1).1,false,p.2.2.2.2.1,[]):=by unfold wR;rw[adq J6,adq h2',adp h3']
      have eo:y8 m p=(y9 m p.2.2.1 p.2.2.2.1).2:=by unfold y8;rw[adm h3'];rfl
      obtain⟨u1,u2⟩:=ku h3';obtain⟨s1,s2,s3⟩:=M_ hf h u1 u2;rw[aD (by rw[ax];exact adm h3'),s1,a9,eo]
      by_cases hz:YD m p.2.2.1 p.2.2.2.1=0
      ·rw[aC (cQ hz),adp (s2.1 hz)];show T.bj (aJ (AV m r.1 k).length 1) _=_;rw[aY (by rw[ay];omega),aU ade,stp];unfold OF;rw[e];rfl
      ·rw[aD (bG hz),adq λh=>hz (s2.2 h)];rfl
     ·have e:wR m p=(p.2.1,0,0,[],false,p.2.2.2.2.1,[]):=by unfold wR;rw[adq J6,adq h2',adq h3']
      have eo:y8 m p=true:=by unfold y8;rw[adl h3'];rfl
      rw[aC (by rw[ax];exact adl h3')];show T.bj (aJ (AV m r.1 k).length 1) _=_;rw[adp eo,aY (by rw[ay];omega),aU ade,stp];unfold OF;rw[e];rfl
  ·intro _;rw[ba];rfl
  rw[bS (λk=>((k:Int),AV m r.1 k)) r.1.length (λk=>y8 m (a8 r.1 k)) (λk=>([],false)) (AV m r.1 r.1.length) ?_ ade ?_ ?_];rotate_left
  ·rfl
  ·intro k hk _;have Nl:=AW m r.1 k;have ku:=key k hk;have stp:AV m r.1 (k+1)=AV m r.1 k++[OF m (a8 r.1 k)]:=rfl;simp only[cZ,hk,ads,adA,ak];generalize a8 r.1 k=p at ku stp⊢;rw[aD rfl,ax,ax,bR,join_some]
   by_cases J6:p.2.1=1\/p.2.1=4
   ·have e:wR m p=(p.2.1,2,dH 3 p.2.2.1,[],false,p.2.2.2.2.1,[]):=by unfold wR;rw[adp J6]
    have eo:y8 m p=true:=by unfold y8;rw[adg];rfl
    rw[aD (by simpa using J6)];show T.bj (aJ (AV m r.1 k).length 1) _=_;rw[adp eo,aY (by rw[ay];omega),aU ade,stp];unfold OF;rw[e];rfl
   ·rw[aC (by simpa using J6)]
    by_cases h2':p.2.1=2
    ·have e:wR m p=(p.2.1,1,dH 3 p.2.2.1,[],false,p.2.2.2.2.1,[]):=by unfold wR;rw[adq J6,adp h2']
     have eo:y8 m p=true:=by unfold y8;rw[adg];rfl
     rw[aD (by rw[ax];exact adm h2')];show T.bj (aJ (AV m r.1 k).length 1) _=_;rw[adp eo,aY (by rw[ay];omega),aU ade,stp];unfold OF;rw[e];rfl
    ·rw[aC (by rw[ax];exact adl h2')]
     by_cases h3':p.2.1=3
     ·have e:wR m p=(p.2.1,3,0,(y9 m p.2.2.1 p.2.2.2.1).1,false,p.2.2.2.2.1,[]):=by unfold wR;rw[adq J6,adq h2',adp h3']
      have eo:y8 m p=(y9 m p.2.2.1 p.2.2.2.1).2:=by unfold y8;rw[adm h3'];rfl
      obtain⟨u1,u2⟩:=ku h3';obtain⟨s1,s2,s3⟩:=M_ hf h u1 u2;rw[aD (by rw[ax];exact adm h3'),s3,a9,eo];cases hs:(y9 m p.2.2.1 p.2.2.2.1).2 with
      |true=>
       rw[aC (c:=an true) rfl,adp rfl];show T.bj (aJ (AV m r.1 k).length 1) _=_;rw[aY (by rw[ay];omega),aU ade,stp];unfold OF;rw[e];rfl
      |false=>rw[aD (c:=an false) rfl,adq (by decide)];rfl
     ·have e:wR m p=(p.2.1,0,0,[],false,p.2.2.2.2.1,[]):=by unfold wR;rw[adq J6,adq h2',adq h3']
      have eo:y8 m p=true:=by unfold y8;rw[adl h3'];rfl
      rw[aC (by rw[ax];exact adl h3')];show T.bj (aJ (AV m r.1 k).length 1) _=_;rw[adp eo,aY (by rw[ay];omega),aU ade,stp];unfold OF;rw[e];rfl
  ·intro _;rw[ba];rfl
  by_cases hA:(List.range r.1.length).all (λk=>y8 m (a8 r.1 k))=true
  ·rw[adp hA,adp hA];exact⟨_,0,rfl,rfl⟩
  ·rw[adq hA,adq hA];obtain⟨Tp,uc⟩:=vJ hA;generalize fB (λk=>y8 m (a8 r.1 k)) r.1.length=j at Tp uc⊢;unfold y8 at uc;rw[ad',Bool.not_eq_false',adk] at uc;obtain⟨u1,u2⟩:=key j Tp uc.1;have:=(M_ hf h u1 u2).2.1;exact⟨[],_,rfl,by rw[adl λh=>by rw[this.1 h] at uc;cases uc.2]⟩
 ·rw[aD (bG h0),aD (bG h0)];exact⟨[],r.2,rfl,by rw[adl h0]⟩
theorem Z6 {m:bf} (hf:Fit bH m) (h:PY m) {n:Nat} (hn:200<n) {i:Nat} (hi:i<m.2.2.2.2.1.length):∃(v:bC) (c:Int),PI n (view m) (i:Int)=some (v,c)/\Ya n m (i:Int)=some (v,decide (c=0)):=by
 have h0:iG m.1=0:=(T6 hf.1).2.2 h.c;have hr:=h.r;have H5:m.2.2.2.1.length<=16:=ade;have j6:i<m.2.2.2.1.length:=ade;have hR:Fit fk (a8 m.2.2.2.2.1 i):=hf.2.2.2.2.1.at hi;have hX:Fit aP (a8 m.2.2.2.1 i):=hf.2.2.2.1.at j6;have hXl:=hX.2.1.len;unfold PI Ya view;dsimp only;have q1:∀{ρ:Type} (k:Nat->Option ρ),T.ai m.2.2.2.2.1.length (i:Int) k=k i:=λk=>by rw[ak,adp hi]
 have q2:∀{ρ:Type} (k:Nat->Option ρ),T.ai m.2.2.2.1.length (i:Int) k=k i:=λk=>by rw[ak,adp j6]
 rw[q1,q1]
 by_cases h3:(a8 m.2.2.2.2.1 i).1=3
 ·rw[aD (by rw[ax];exact adm h3),aD (by rw[ax];exact adm h3)];exact⟨_,0,rfl,rfl⟩
 ·obtain⟨g1,g2⟩:=h.f i j6;have gw:=h.w i j6 h3;have hb:=pD g1;rw[aC (by rw[ax];exact adl h3),aC (by rw[ax];exact adl h3),q2,q2,T1 hf.1 hX hR.2.1,adp g1,adp h0,T4 hf.1 h0 hX g1 hR.2.1,a9,a9,aC (cQ gw)];obtain⟨w1,w2⟩:=Pv (j7 h0) hX hb.2.1 ((a8 m.2.2.2.1 i).2.1.length+1) (a8 m.2.2.2.2.1 i).2.1 (a8 m.2.2.2.1 i).2.1.length 0 [] ⟨hR.2.1,adw _,Or.inl rfl,by show 0+_<=_;omega⟩ (λe=>by cases e) (λs hs=>by cases hs) gw;generalize(BJ m.1 (a8 m.2.2.2.1 i) ((a8 m.2.2.2.1 i).2.1.length+1) (a8 m.2.2.2.2.1 i).2.1 (a8 m.2.2.2.1 i).2.1.length 0 [])=W at w1 w2⊢;obtain⟨c1,a1,a2⟩:=Zb hf h0 H5 w1 w2 hn;obtain⟨r2,c2,b1,b2,b3⟩:=Zd hf h0 H5 w1 (a:=(a8 m.2.2.2.2.1 i).2.2.2.1) hR.2.2.2.1 hn;obtain⟨r3,c3,d1,d2⟩:=Zf hf h (a:=(a8 m.2.2.2.2.1 i).2.2.2.2.1) hR.2.2.2.2.1;unfold view at a1 b1 d1;rw[a1,a9,b1,a9,d1,a9];have e20:∀(kx:_->Option (bC×Bool)) (kr:bC×Bool->Option (bC×Bool)),loop (Int×(Nat×(Int×(Nat×(Int×((List cW)×((List cq)×((List c9)×((List cW)×((List cq)×(List c9))))))))))) (Nat×(Int×(Nat×(Int×((List cW)×((List cq)×((List c9)×((List cW)×((List cq)×(List c9)))))))))) (bC×Bool) (λv3=>(af (aO v3.1 W.1.length) (λ_=>(T.ai W.1.length v3.1 (λv4=>(bind (Wv n m (a8 W.1 v4)) (λv5=>(af (an v5.2) (λ_=>(bT ((0,(0,([],([],([],()))))),false))) λ_=>(T.ai W.1.length v3.1 (λv6=>(T.ai W.1.length v3.1 (λv7=>(T.ai W.1.length v3.1 (λv8=>(T.bj (aJ v3.2.2.2.2.2.2.2.2.1.length 1) (bh ((ab 3 v3.1 1),v3.2.1,v3.2.2.1,v3.2.2.2.1,v3.2.2.2.2.1,v3.2.2.2.2.2.1,v3.2.2.2.2.2.2.1,v3.2.2.2.2.2.2.2.1,(aw v3.2.2.2.2.2.2.2.2.1 [((a8 W.1 v6).2.1,((a8 W.1 v7).2.2.1,((a8 W.1 v8).2.2.2.1,(v5.1,()))))]),v3.2.2.2.2.2.2.2.2.2.1,v3.2.2.2.2.2.2.2.2.2.2))))))))))))))) λ_=>(lex (v3.2.1,v3.2.2.1,v3.2.2.2.1,v3.2.2.2.2.1,v3.2.2.2.2.2.1,v3.2.2.2.2.2.2.1,v3.2.2.2.2.2.2.2.1,v3.2.2.2.2.2.2.2.2.1,v3.2.2.2.2.2.2.2.2.2.1,v3.2.2.2.2.2.2.2.2.2.2)))) (0,0,0,(a8 m.2.2.2.2.1 i).1,(a8 m.2.2.2.2.1 i).2.2.2.2.2.1,[],[],[],[],[],[]) kx kr=if J4 n m W.1=true then kx (0,0,(a8 m.2.2.2.2.1 i).1,(a8 m.2.2.2.2.1 i).2.2.2.2.2.1,[],[],[],At n m W.1 W.1.length,[],[]) else kr ((0,(0,([],([],([],()))))),false):=by
   intro kx kr;rw[bS (λk=>((k:Int),0,0,(a8 m.2.2.2.2.1 i).1,(a8 m.2.2.2.2.1 i).2.2.2.2.2.1,[],[],[],At n m W.1 k,[],[])) W.1.length (λk=>qR n m.1 (fu m) (a8 W.1 k)) (λk=>((0,(0,([],([],([],()))))),false)) (0,0,(a8 m.2.2.2.2.1 i).1,(a8 m.2.2.2.2.1 i).2.2.2.2.2.1,[],[],[],At n m W.1 W.1.length,[],[]) ?_ ade ?_ ?_]
   ·rfl
   ·rfl
   ·intro k hk _;have Nl:=qA n m W.1 k;obtain⟨-,z2,-⟩:=MY hf h0 H5 (w2 (a8 W.1 k) (by rw[bz hk];exact adT hk)) hn;simp only[cZ,hk,ads,adA,ak];rw[aD rfl,z2,a9];cases hz:qR n m.1 (fu m) (a8 W.1 k) with
    |true=>
     rw[aC (c:=an true) rfl,adp rfl,aY (by rw[ay,qA];omega),aU ade];rfl
    |false=>rw[aD (c:=an false) rfl,adq (by decide)];rfl
   ·intro _;rw[ba];rfl
  rw[e20]
  by_cases hA:J4 n m W.1=true
  ·have nZ:=a2.2 hA;rw[adp hA,adp hA,b2,a9,d2,a9,aC (cQ nZ)]
   by_cases z2:c2=0
   ·rw[aC (cQ z2),adm z2,aC (c:=an true) rfl]
    by_cases z3:c3=0
    ·rw[join_some,aC (cQ z3),adm z3,join_some,aC (c:=an true) rfl];exact⟨_,0,rfl,rfl⟩
    ·rw[join_some,aD (bG z3),adl z3,join_some,aD (c:=an false) rfl];exact⟨_,36,rfl,rfl⟩
   ·rw[aD (bG z2),join_some,aD rfl,adl z2,aD (c:=an false) rfl,join_some,aD rfl];exact⟨_,36,rfl,rfl⟩
  ·have nZ:c1≠0:=λe=>hA (a2.1 e)
   rw[adq hA,adq hA,aD (bG nZ),join_some,aD rfl];exact⟨_,36,rfl,rfl⟩
abbrev rt0:bC:=(0,(0,([],([],([],())))))
noncomputable def rtV (n:Nat) (m:bf) (i:Nat):bC:=((PI n (view m) (i:Int)).map (·.1)).getD rt0
noncomputable def Sj (n:Nat) (m:bf) (i:Nat):Int:=((PI n (view m) (i:Int)).map (·.2)).getD 0
theorem Lx {m:bf} (hf:Fit bH m) (h:PY m) {n:Nat} (hn:200<n) {i:Nat} (hi:i<m.2.2.2.2.1.length):PI n (view m) (i:Int)=some (rtV n m i,Sj n m i)/\Ya n m (i:Int)=some (rtV n m i,decide (Sj n m i=0)):=by
 obtain⟨v,c,h1,h2⟩:=Z6 hf h hn hi;have e1:rtV n m i=v:=by unfold rtV;rw[h1];rfl
 have e2:Sj n m i=c:=by unfold Sj;rw[h1];rfl
 rw[e1,e2];exact⟨h1,h2⟩
theorem SY {m:bf} (hf:Fit bH m) {n:Nat} (hn:200<n):∃c:Int,Z5 m=some (view m,c)/\Y9 n m=some c/\(c=0->PY m):=by
 obtain⟨c,h1,h2,h3⟩:=Ju hf (n:=n) ade;refine⟨c,?_,h2,h3⟩;have:=hf.2.2.2.1.len;unfold Z5;rw[aY (by rw[ay];omega),h1,a9];rfl
theorem Ij {m:bf} (hf:Fit bH m) {n:Nat} (hn:200<n) (i:Int):∃r,f6 n m i=some r/\f7 n m i=some r:=by
 obtain⟨c,h1,h2,h3⟩:=SY hf hn;unfold f6 f7;rw[h1,h2,a9,a9]
 by_cases hc:c=0
 ·have h:=h3 hc;rw[aC (cQ hc),aC (cQ hc)]
  by_cases hb:i<0\/(m.2.2.2.2.1.length:Int)<=i
  ·have e:(af (aO i 0) (λ_=>(some true)) λ_=>(some (cB m.2.2.2.2.1.length i)))=some true:=by
    rw[bR,aE,aN];simpa using hb
   rw[e,join_some,aD rfl,join_some,aD rfl];exact⟨_,rfl,rfl⟩
  ·have e:(af (aO i 0) (λ_=>(some true)) λ_=>(some (cB m.2.2.2.2.1.length i)))=some false:=by
    rw[bR,aE,aN,adg,adg];rfl
   rw[e,join_some,aC rfl,join_some,aC rfl];obtain⟨k,rfl⟩:∃k:Nat,i=(k:Int):=⟨i.toNat,ade⟩;obtain⟨g1,g2⟩:=Lx hf h hn (i:=k) ade;rw[g1,g2,a9,a9]
   by_cases hz:Sj n m k=0
   ·rw[aC (cQ hz),adm hz,aC (c:=an true) rfl];exact⟨_,rfl,rfl⟩
   ·rw[aD (bG hz),adl hz,aD (c:=an false) rfl];exact⟨_,rfl,rfl⟩
 ·rw[aD (bG hc),aD (bG hc)];exact⟨_,rfl,rfl⟩
noncomputable def XI (n:Nat) (m:bf):Nat->List bC
 |0=>[]
 |k+1=>XI n m k++[rtV n m k]
theorem rf (n:Nat) (m:bf):∀k,(XI n m k).length=k
 |0=>rfl
 |k+1=>by rw[XI,ado,rf n m k];rfl
theorem a7k {m:bf} (hf:Fit bH m) {n:Nat} (hn:200<n) (e:nT):∃r,f8 n m e=some r/\f9 n m e=some r:=by
 obtain⟨c,h1,h2,h3⟩:=SY hf hn;unfold f8 f9;rw[h1,h2,a9,a9]
 by_cases hc:c=0
 ·have h:=h3 hc;have hr:=h.r;rw[aC (cQ hc),aC (cQ hc)];have ej:∃b:Bool,(af (eF e.1 1) (λ_=>(some true)) λ_=>(af (eF 8 e.1) (λ_=>(some true)) λ_=>(af (aO e.2.1 (-1)) (λ_=>(some true)) λ_=>(some (cB m.2.2.2.2.1.length e.2.1)))))=some b:=by
   simp only[bR];exact⟨_,rfl⟩
  obtain⟨b,eb⟩:=ej;rw[eb,join_some,join_some];cases b with
  |true=>rw[aD rfl,aD rfl];exact⟨_,rfl,rfl⟩
  |false=>
   rw[aC rfl,aC rfl];rw[bS (λk=>((k:Int),0,0,0,e.1,e.2.1,m.2.2.2.2.2.1,[],XI n m k)) m.2.2.2.2.1.length (λk=>decide (Sj n m k=0)) (λk=>((0,(0,(0,([],())))),36)) (0,0,0,e.1,e.2.1,m.2.2.2.2.2.1,[],XI n m m.2.2.2.2.1.length) ?_ ade ?_ ?_];rotate_left
   ·rfl
   ·intro k hk _;have Nl:=rf n m k;obtain⟨g1,g2⟩:=Lx hf h hn hk;simp only[cZ,hk,ads];rw[aD rfl,g1,a9]
    by_cases hz:Sj n m k=0
    ·rw[aC (cQ hz),adp (adm hz),aY (by rw[ay,rf];omega),aU ade];rfl
    ·rw[aD (bG hz),adq (by rw[adk];exact hz)];rfl
   ·intro _;rw[ba];rfl
   rw[bS (λk=>((k:Int),0,0,0,e.1,e.2.1,m.2.2.2.2.2.1,[],XI n m k)) m.2.2.2.2.1.length (λk=>decide (Sj n m k=0)) (λk=>((0,(0,(0,([],())))),36)) (0,0,0,e.1,e.2.1,m.2.2.2.2.2.1,[],XI n m m.2.2.2.2.1.length) ?_ ade ?_ ?_];rotate_left
   ·rfl
   ·intro k hk _;have Nl:=rf n m k;obtain⟨g1,g2⟩:=Lx hf h hn hk;simp only[cZ,hk,ads];rw[aD rfl,g2,a9]
    by_cases hz:Sj n m k=0
    ·rw[adm hz,aC (c:=an true) rfl,adp rfl,aY (by rw[ay,rf];omega),aU ade];rfl
    ·rw[adl hz,aD (c:=an false) rfl,adq (by decide)];rfl
   ·intro _;rw[ba];rfl
   split
   ·exact⟨_,rfl,rfl⟩
   ·exact⟨_,rfl,rfl⟩
 ·rw[aD (bG hc),aD (bG hc)];exact⟨_,rfl,rfl⟩
def rY:(t:Ty)->t.T->Prop
 | .i k,x=>ix k x
 | .u k,x=>x<fo k
 | .b,_=>True
 | .s,l=>List.length l<9223372036854775808/\∀c∈(show List Nat from l),c<256
 | .sl e,l=>List.length l<9223372036854775808/\∀x∈(show List e.T from l),rY e x
 | .pr a c,x=>rY a x.1/\rY c x.2
 | .un,_=>True
 | .ar n e,l=>List.length l=n/\∀x∈(show List e.T from l),rY e x
 | .gv,_=>True
theorem rY.len {e:Ty} {l:List e.T} (h:rY (.sl e) l):l.length<9223372036854775808:=h.1
theorem rY.at {e:Ty} [Zr e.T] {l:List e.T} (h:rY (.sl e) l) {i:Nat} (hi:i<l.length):rY e (a8 l i):=by rw[bz hi];exact h.2 _ (adT hi)
theorem rY.XL {l:List Nat} (h:rY .s l) (hl:l.length<=5000):Fit .s l:=⟨hl,h.2⟩
theorem Xl {α:Type} [Zr α] {l:List α} {P:α->Prop} (h:∀i,i<l.length->P (a8 l i)):∀x∈l,P x:=λx hx=>by
 obtain⟨i,hi,rfl⟩:=List.mem_iff_getElem.1 hx;rw[<-bz hi];exact h i hi
theorem Cg {e:Ty} [Zr e.T] {l:List e.T} (hl:l.length<=5000) (h:∀i,i<l.length->Fit e (a8 l i)):Fit (.sl e) l:=⟨hl,Xl h⟩
theorem qx {e:Ty} {l:List e.T} (he:∀x:e.T,rY e x->Fit e x) (h:rY (.sl e) l) (hl:l.length<=5000):Fit (.sl e) l:=⟨hl,λx hx=>he x (h.2 x hx)⟩
def Kb (l:List cy) (k:Nat):Bool:= !decide (100<((a8 l k).1.length:Int))
def XY (t:aT):Bool:= !decide (20<(t.2.2.2.1.length:Int))&&(List.range t.2.2.2.1.length).all (Kb t.2.2.2.1)
theorem Z8 {l:List aT} (h:rY (.sl ca) l):∃b,f26 l=some b/\(b=false->l.length<=40/\∀i,i<l.length->XY (a8 l i)=true):=by
 have hl:=h.len;unfold f26
 by_cases h40:40<(l.length:Int)
 ·rw[aD (by rw[aE];exact adm h40)];exact⟨true,rfl,λh=>by cases h⟩
 ·rw[aC (by rw[aE];exact adl h40)];rw[bA l.length (λi=>XY (a8 l i)) true () ade ?_ ?_]
  ·split
   ·rename_i ha;exact⟨false,rfl,λ_=>⟨ade,λi hi=>adE.1 ha i (adL.2 hi)⟩⟩
   ·exact⟨true,rfl,λh=>by cases h⟩
  ·intro i hi;have Tu:=(h.at hi).2.2.2.1.len;have c:∀{ρ:Type} (k:Nat->Option ρ),T.ai l.length (i:Int) k=k i:=λk=>by rw[ak,adp hi]
   simp only[cZ,hi,ads];rw[aD rfl,c];unfold XY
   by_cases h20:20<((a8 l i).2.2.2.1.length:Int)
   ·rw[aD (by rw[aE];exact adm h20),adm h20];rfl
   ·rw[aC (by rw[aE];exact adl h20),adl h20];rw[bA (a8 l i).2.2.2.1.length (Kb (a8 l i).2.2.2.1) true () ade ?_ ?_]
    ·rw[Bool.not_false,adW];cases ha:(List.range (a8 l i).2.2.2.1.length).all (Kb (a8 l i).2.2.2.1) with
     |true=>rw[adp rfl,adp rfl,aU ade];rfl
     |false=>rw[adq (by decide),adq (by decide)];rfl
    ·intro k hk;simp only[c,cZ,hk,ads,ak,adA];rw[aD rfl,aU ade,aE,ao];unfold Kb
     by_cases h1:100<((a8 (a8 l i).2.2.2.1 k).1.length:Int)
     ·rw[adm h1];rfl
     ·rw[adl h1];rfl
    ·rw[c,ba];rfl
  ·rw[ba];rfl
def PK (f:bY):Bool:=(!decide (100<(f.1.length:Int))&&(!decide (20<(f.2.2.2.1.length:Int))&&(!decide (210<(f.2.2.2.2.1.length:Int))&&(!decide (210<(f.2.2.2.2.2.1.length:Int))&& !decide (210<(f.2.2.2.2.2.2.1.length:Int))))))&&(List.range f.2.2.2.1.length).all (Kb f.2.2.2.1)
def yd (l:List bY):Nat->Int
 |0=>0
 |k+1=>yd l k+((a8 l k).2.2.2.2.1.length:Int)
theorem Pe {l:List bY} (n:Nat):∀k,k<=n->(∀j,j<k->PK (a8 l j)=true)->0<=yd l k/\yd l k<=210*k
 |0,_,_=>by unfold yd;omega
 |k+1,hk,h=>by
  have h1:=Pe n k ade (λj hj=>h j ade);have h2:=h k ade;unfold PK at h2;simp only[adr,adn,adj] at h2;unfold yd;omega
def Yi (l:List bY) (k:Nat):Bool:=PK (a8 l k)&& !decide (1000<yd l (k+1))
theorem SU {m:aK} (h:rY bJ m):∃b,Z2 m=some b/\(b=false->(m.1.length<=40/\∀i,i<m.1.length->XY (a8 m.1 i)=true)/\m.2.1.length<=40/\m.2.2.1.length<=40/\(∀i,i<m.2.1.length->(a8 m.2.1 i).length<=100)/\∀i,i<m.2.2.1.length->PK (a8 m.2.2.1 i)=true):=by
 have l2:=h.2.1.len;have l3:=h.2.2.1.len;obtain⟨b,hb,uc⟩:=Z8 h.1;unfold Z2;rw[hb,a9];cases b with
 |true=>
  rw[aD rfl,join_some,aD rfl];exact⟨true,rfl,λh=>by cases h⟩
 |false=>
  rw[aC rfl,aE,aE]
  by_cases h40:40<(m.2.1.length:Int)
  ·rw[adm h40,aD rfl,join_some,aD rfl];exact⟨true,rfl,λh=>by cases h⟩
  ·rw[adl h40,aC rfl]
   by_cases h41:40<(m.2.2.1.length:Int)
   ·rw[adm h41,join_some,aD rfl];exact⟨true,rfl,λh=>by cases h⟩
   ·rw[adl h41,join_some,aC rfl];rw[bA m.2.1.length (λi=> !decide (100<((a8 m.2.1 i).length:Int))) true () ade ?_ ?_];rotate_left
    ·intro i hi;simp only[cZ,hi,ads,ak,adA];rw[aD rfl,aU ade,aE,ao]
     by_cases h1:100<((a8 m.2.1 i).length:Int)
     ·rw[adm h1];rfl
     ·rw[adl h1];rfl
    ·rw[ba];rfl
    split
    ·rename_i ha;rw[z6 (λk=>(yd m.2.2.1 k,(k:Int))) m.2.2.1.length (Yi m.2.2.1) true () ?_ ade ?_ ?_];rotate_left
     ·rfl
     ·intro k hk Nu;have hF:=h.2.2.1.at hk;have f1:=hF.2.2.2.1.len;have c:∀{ρ:Type} (g:Nat->Option ρ),T.ai m.2.2.1.length (k:Int) g=g k:=λg=>by rw[ak,adp hk]
      have hs:=Pe (l:=m.2.2.1) m.2.2.1.length k ade (λj hj=>by have:=Nu j hj;unfold Yi at this;rw[adr] at this;exact this.1);have hlen:=hF.2.2.2.2.1.len;simp only[cZ,hk,ads,c]
      by_cases hg:210<((a8 m.2.2.1 k).2.2.2.2.1.length:Int)
      ·rw[aD rfl];generalize T.ab 3 _ _=S;simp only[aE,bR,join_some];have ek:Yi m.2.2.1 k=false:=by unfold Yi PK;rw[adm hg];simp
       rw[ek,adm hg,Bool.true_or,Bool.or_true,Bool.or_true,aD rfl];rfl
      rw[aD rfl,c8 ade ade];simp only[aE,bR,join_some];have a8c:yd m.2.2.1 (k+1)=yd m.2.2.1 k+((a8 m.2.2.1 k).2.2.2.2.1.length:Int):=rfl;rw[<-a8c];unfold Yi;generalize yd m.2.2.1 (k+1)=S;generalize a8 m.2.2.1 k=f at f1⊢;have eg:(PK f&& !decide (1000<S))=(!(decide (100<(f.1.length:Int))||(decide (20<(f.2.2.2.1.length:Int))||(decide (210<(f.2.2.2.2.1.length:Int))||(decide (210<(f.2.2.2.2.2.1.length:Int))||(decide (210<(f.2.2.2.2.2.2.1.length:Int))||decide (1000<S))))))&&(List.range f.2.2.2.1.length).all (Kb f.2.2.2.1)):=by
       unfold PK;generalize decide (100<(f.1.length:Int))=p1;generalize decide (20<(f.2.2.2.1.length:Int))=p2;generalize decide (210<(f.2.2.2.2.1.length:Int))=p3;generalize decide (210<(f.2.2.2.2.2.1.length:Int))=p4;generalize decide (210<(f.2.2.2.2.2.2.1.length:Int))=p5;generalize decide (1000<S)=p6;generalize(List.range f.2.2.2.1.length).all (Kb f.2.2.2.1)=p7;cases p1<;>cases p2<;>cases p3<;>cases p4<;>cases p5<;>cases p6<;>cases p7<;>rfl
      rw[eg];cases(decide (100<(f.1.length:Int))||(decide (20<(f.2.2.2.1.length:Int))||(decide (210<(f.2.2.2.2.1.length:Int))||(decide (210<(f.2.2.2.2.2.1.length:Int))||(decide (210<(f.2.2.2.2.2.2.1.length:Int))||decide (1000<S)))))) with
      |true=>rfl
      |false=>
       rw[aC rfl,Bool.not_false,adW];rw[bA f.2.2.2.1.length (Kb f.2.2.2.1) true () ade ?_ ?_]
       ·cases ha:(List.range f.2.2.2.1.length).all (Kb f.2.2.2.1) with
        |true=>rw[adp rfl,adp rfl,aU ade];rfl
        |false=>rw[adq (by decide),adq (by decide)];rfl
       ·intro j hj;rw[aD adf,ak,adp hj,aU ade,ao];unfold Kb
        by_cases h1:100<((a8 f.2.2.2.1 j).1.length:Int)
        ·rw[adm h1];rfl
        ·rw[adl h1];rfl
       ·rw[aC adg];rfl
     ·intro _;rw[ba];rfl
     split
     ·rename_i hb;refine⟨false,rfl,λ_=>⟨uc rfl,ade,ade,λi hi=> ?_,λi hi=> ?_⟩⟩
      ·have:=adE.1 ha i (adL.2 hi);rw[adn,adj] at this;omega
      ·have:=adE.1 hb i (adL.2 hi);unfold Yi at this;rw[adr] at this;exact this.1
     ·exact⟨true,rfl,λh=>by cases h⟩
    ·exact⟨true,rfl,λh=>by cases h⟩
theorem a7A {m:bf} (h:rY bH m):∃b,f4 m=some b/\(b=false->Z2 m.1=some false/\m.2.2.1.2.1.length<=4200/\m.2.2.2.1.length<=20/\m.2.2.2.2.1.length<=20/\∀i,i<m.2.2.2.1.length->(a8 m.2.2.2.1 i).2.1.length<=4200):=by
 have l4:=h.2.2.2.1.len;obtain⟨b,hb,uc⟩:=SU h.1;unfold f4;rw[hb,a9];cases b with
 |true=>rw[aD rfl,join_some,aD rfl];exact⟨true,rfl,λh=>by cases h⟩
 |false=>
  rw[aC rfl,bR,bR,join_some];simp only[aE]
  by_cases hc:4200<(m.2.2.1.2.1.length:Int)\/20<(m.2.2.2.1.length:Int)\/20<(m.2.2.2.2.1.length:Int)
  ·rw[aD (by simpa using hc)];exact⟨true,rfl,λh=>by cases h⟩
  ·rw[aC (by simpa using hc)];rw[bA m.2.2.2.1.length (λi=> !decide (4200<((a8 m.2.2.2.1 i).2.1.length:Int))) true () ade ?_ ?_]
   ·split
    ·rename_i ha;refine⟨false,rfl,λ_=>⟨trivial,ade,ade,ade,λi hi=> ?_⟩⟩;have:=adE.1 ha i (adL.2 hi);rw[adn,adj] at this;omega
    ·exact⟨true,rfl,λh=>by cases h⟩
   ·intro i hi;rw[aD adf,ak,adp hi,aU ade,ao]
    by_cases h1:4200<((a8 m.2.2.2.1 i).2.1.length:Int)
    ·rw[adm h1];rfl
    ·rw[adl h1];rfl
   ·rw[aC adg];rfl
theorem Uu {t:aT} (h:XY t=true):t.2.2.2.1.length<=20/\∀i,i<t.2.2.2.1.length->(a8 t.2.2.2.1 i).1.length<=100:=by
 unfold XY at h;rw[adr,adn,adj,adE] at h;refine⟨ade,λi hi=> ?_⟩;have:=h.2 i (adL.2 hi);unfold Kb at this;rw[adn,adj] at this;omega
theorem a04 {f:bY} (h:PK f=true):f.1.length<=100/\f.2.2.2.1.length<=20/\f.2.2.2.2.1.length<=210/\f.2.2.2.2.2.1.length<=210/\f.2.2.2.2.2.2.1.length<=210/\∀i,i<f.2.2.2.1.length->(a8 f.2.2.2.1 i).1.length<=100:=by
 unfold PK at h;simp only[adr,adn,adj,adE] at h;refine⟨ade,ade,ade,ade,ade,λi hi=> ?_⟩;have:=h.2 i (adL.2 hi);unfold Kb at this;rw[adn,adj] at this;omega
theorem J3 {f:cy} (h:rY eP f) (hn:f.1.length<=100):Fit eP f:=⟨h.1.XL ade,h.2.1,trivial⟩
theorem vQ {l:List cy} (h:rY (.sl eP) l) (hl:l.length<=20) (hn:∀i,i<l.length->(a8 l i).1.length<=100):Fit (.sl eP) l:=Cg ade λi hi=>J3 (h.at hi) (hn i hi)
theorem G_ (x:dh) (h:rY lf x):Fit lf x:=⟨h.1,h.2.1,trivial⟩
theorem Rj (x:aX) (h:rY cK x):Fit cK x:=⟨h.1,h.2.1,h.2.2.1,h.2.2.2.1,trivial⟩
theorem WC (x:d8) (h:rY fk x):Fit fk x:=⟨h.1,h.2.1,h.2.2.1,h.2.2.2.1,h.2.2.2.2.1,h.2.2.2.2.2.1,trivial⟩
theorem GZ {x:aq} (h:rY aP x) (hl:x.2.1.length<=5000):Fit aP x:=⟨h.1,⟨hl,λc hc=>h.2.1.2 c hc⟩,trivial⟩
theorem N9 {t:aT} (h:rY ca t) (hg:XY t=true):Fit ca t:=⟨h.1,h.2.1,h.2.2.1,vQ h.2.2.2.1 (Uu hg).1 (Uu hg).2,trivial⟩
theorem N7 {f:bY} (h:rY iE f) (hg:PK f=true):Fit iE f:=by
 obtain⟨b1,b2,b3,b4,b5,b6⟩:=a04 hg;obtain⟨h1,h2,h3,h4,h5,h6,h7,-⟩:=h;exact⟨h1.XL ade,h2,h3,vQ h4 b2 b6,qx Rj h5 ade,qx G_ h6 ade,qx G_ h7 ade,trivial⟩
theorem WB {m:bf} (h:rY bH m):f4 m=some true\/(f4 m=some false/\Fit bH m):=by
 obtain⟨b,hb,uc⟩:=a7A h;cases b with
 |true=>exact Or.inl hb
 |false=>
  obtain⟨c1,c2,c3,c4,c5⟩:=uc rfl;obtain⟨d,hd,WT⟩:=SU h.1;rw[c1] at hd;injection hd with hd
  obtain⟨⟨e1,e2⟩,e3,e4,e5,e6⟩:=WT hd.symm;obtain⟨h1,h2,h3,h4,h5,h6⟩:=h;refine Or.inr ⟨hb,⟨?_,?_,?_,trivial⟩,⟨h2.1,h2.2.1,h2.2.2.1,h2.2.2.2.1,trivial⟩,GZ h3 ade,Cg ade λi hi=>GZ (h4.at hi) (by have:=c5 i hi;omega),qx WC h5 ade,h6.1,trivial⟩
  ·exact Cg ade λi hi=>N9 (h1.1.at hi) (e2 i hi)
  ·exact Cg (e:= .s) ade λi hi=>(h1.2.1.at hi).XL (by have:=e5 i hi;omega)
  ·exact Cg ade λi hi=>N7 (h1.2.2.1.at hi) (e6 i hi)
end Go.Proofs.YtbjcjppphoppfaaGreat.M
