import Derived.Test.YtbjcjppphoppfaaGreatEAH
import Derived.Test.YtbjcjppphoppfaaGreatEAP
import Derived.Test.YtbjcjppphoppfaaGreatEAQ
import Derived.Test.YtbjcjppphoppfaaGreatEAR
import Derived.Test.YtbjcjppphoppfaaGreatEAS
import Derived.Test.YtbjcjppphoppfaaGreatEAT
import Derived.Test.YtbjcjppphoppfaaGreatEAU
import Derived.Test.YtbjcjppphoppfaaGreatEAV
import Derived.Test.YtbjcjppphoppfaaGreatEAW
import Derived.Test.YtbjcjppphoppfaaGreatEBG
import Derived.ChangeArms
import Derived.DataReads
import Derived.Below
import Derived.ProofKit
set_option linter.all false
namespace Go.Proofs.YtbjcjppphoppfaaGreat.M
open Go.Proofs.YtbjcjppphoppfaaGreat.T hiding a8 ae av aH aw bd bM cC
def eu {α:Type} (P:α->Prop) (o:Option α):Prop:=∀a,o=some a->P a
def LP {S E Q:Type} (I:S->Prop) (PE:E->Prop) (PQ:Q->Prop):T.LR S E Q->Prop
 | .ok s=>I s
 | .ex e=>PE e
 | .rt q=>PQ q
theorem bl {α:Type} {P:α->Prop} {a:α} (h:P a):eu P (some a):=λb e=>by injection e with e;rw[<-e];exact h
theorem ey {α:Type} {P:α->Prop}:eu P none:=λb e=>by cases e
theorem br {ρ:Type} {P:ρ->Prop} {c:Bool} {x y:Unit->Option ρ} (h1:eu P (x ())) (h2:eu P (y ())):eu P (T.af c x y):=by
 cases c
 ·exact h2
 ·exact h1
theorem bD {α ρ:Type} {P:ρ->Prop} {o:Option α} {k:α->Option ρ} (h:∀a,o=some a->eu P (k a)):eu P (bind o k):=by
 cases o with
 |none=>exact ey
 |some a=>exact h a rfl
theorem eG {α ρ:Type} {P:ρ->Prop} {o:Option α} {k:α->Option ρ} (h:∀a,o=some a->eu P (k a)):eu P (join α o k):=bD h
theorem dQ {ρ:Type} {P:ρ->Prop} {n:Nat} {i:Int} {k:Nat->Option ρ} (h:∀j,j<n->eu P (k j)):eu P (T.ai n i k):=by
 rw[T.A0];split
 ·exact h _ ade
 ·exact ey
theorem OH {ρ:Type} {P:ρ->Prop} {n:Nat} {i:Int} {k:Nat->Option ρ} (h:∀j,eu P (k j)):eu P (T.b_ n i k):=by
 rw[T.d4];split
 ·exact h _
 ·exact ey
theorem OI {ρ:Type} {P:ρ->Prop} {i:Int} {k:Nat->Option ρ} (h:∀j,eu P (k j)):eu P (T.jZ i k):=by
 rw[T.jv];split
 ·exact h _
 ·exact ey
theorem fR {ρ:Type} {P:ρ->Prop} {n:Nat} {k:Option ρ} (h:n<=1073741824->eu P k):eu P (T.bj n k):=by
 rw[T.dZ];split
 ·rename_i h1;exact h h1
 ·exact ey
theorem zr {S E Q:Type} {f:S->Option (T.LR S E Q)} (I:S->Prop) (PE:E->Prop) (PQ:Q->Prop) (h:∀s,I s->eu (LP I PE PQ) (f s)):∀(N:Nat) (s:S),I s->eu (LP (λ_=>False) PE PQ) (T.iter f N s)
 |0,_,_=>ey
 |N+1,s,hs=>by
  have h1:=h s hs;show eu _ (Option.bind (f s) _);cases e:f s with
  |none=>exact ey
  |some r=>
   have h2:=h1 r e;cases r with
   |ok s'=>exact zr I PE PQ h N s' h2
   |ex e=>exact bl h2
   |rt q=>exact bl h2
theorem gY {S E Q ρ:Type} {P:ρ->Prop} {f:S->Option (T.LR S E Q)} {s:S} {kx:E->Option ρ} {kr:Q->Option ρ} (I:S->Prop) (PE:E->Prop) (PQ:Q->Prop) (hs:I s) (h:∀s,I s->eu (LP I PE PQ) (f s)) (hx:∀e,PE e->eu P (kx e)) (hr:∀q,PQ q->eu P (kr q)):eu P (loop S E Q f s kx kr):=by
 have h1:=zr I PE PQ h 9223372036854775808 s hs;show eu P (Option.bind (T.iter f 9223372036854775808 s) _);cases e:T.iter f 9223372036854775808 s with
 |none=>exact ey
 |some r=>
  have h2:=h1 r e;cases r with
  |ok s'=>exact ey
  |ex e'=>exact hx e' h2
  |rt q=>exact hr q h2
theorem JG {S E Q ρ:Type} {P:ρ->Prop} {o:Option (T.LR S E Q)} {k:S->Option ρ} {kx:E->Option ρ} {kr:Q->Option ρ} (I:S->Prop) (PE:E->Prop) (PQ:Q->Prop) (h:eu (LP I PE PQ) o) (hk:∀e,I e->eu P (k e)) (hx:∀e,PE e->eu P (kx e)) (hr:∀q,PQ q->eu P (kr q)):eu P (part S E Q o k kx kr):=by
 show eu P (Option.bind o _);cases e:o with
 |none=>exact ey
 |some r=>
  have h2:=h r e;cases r with
  |ok s'=>exact hk s' h2
  |ex e'=>exact hx e' h2
  |rt q=>exact hr q h2
theorem eX {S E Q:Type} {I:S->Prop} {PE:E->Prop} {PQ:Q->Prop} {s:S} (h:I s):eu (LP I PE PQ) (bh s):=bl h
theorem kJ {S E Q:Type} {I:S->Prop} {PE:E->Prop} {PQ:Q->Prop} {s:E} (h:PE s):eu (LP I PE PQ) (lex s):=bl h
theorem gG {S E Q:Type} {I:S->Prop} {PE:E->Prop} {PQ:Q->Prop} {s:Q} (h:PQ s):eu (LP I PE PQ) (bT s):=bl h
def dX {α:Type} (P:α->Prop) (l:List α):Prop:=l.length<=1073741824/\∀x∈l,P x
theorem dX.nil {α:Type} {P:α->Prop}:dX P []:=⟨by simp,λx hx=>by cases hx⟩
theorem dX.app {α:Type} {P:α->Prop} {l:List α} (h:dX P l) {x:α} (hc:aJ l.length 1<=1073741824) (hx:P x):dX P (aw l [x]):=by
 rw[ay] at hc;refine⟨?_,λy hy=> ?_⟩
 ·show(l++[x]).length<=_;rw[ado,adJ];exact hc
 ·rcases adC.1 (show y∈l++[x] from hy) with hy|hy
  ·exact h.2 y hy
  ·rw[adF] at hy;rw[hy];exact hx
def mN:Nat->GV->Prop
 |0,_=>False
 |n+1,v=>dX (mN n) (vZ v).2.2.2.1
theorem cY {n:Nat} {k:Nat} {i:Int} {t:List Nat} {b:Bool}:mN (n+1) (iP (k,(i,(t,([],(b,())))))):=dX.nil
theorem Ck {n:Nat} {k:Nat} {i:Int} {t:List Nat} {b:Bool} {l:List GV} (h:dX (mN n) l):mN (n+1) (iP (k,(i,(t,(l,(b,())))))):=h
theorem LI {n:Nat} {g:dp->(List Nat)->Int->Int->Option (GV×Int)} (hg:∀a b c d,eu (λv:GV×Int=>mN n v.1) (g a b c d)) (x0 x1 x2 x3 x4):eu (λv:List GV×Int=>dX (mN n) v.1) (C5 g x0 x1 x2 x3 x4):=by
 unfold C5;refine gY (λs=>dX (mN n) s.2) (λe=>dX (mN n) e) (λq=>dX (mN n) q.1) dX.nil (λs hs=> ?_) (λe he=>bl he) (λq hq=>bl hq);refine br (dQ λ_ _=>dQ λ_ _=>OH λ_=>bD λv hv=>br (gG dX.nil) (fR λhc=>eX (hs.app hc (hg _ _ _ _ _ hv)))) (kJ hs)
theorem LH {n:Nat} {g:dp->(List Nat)->Int->Int->Option (GV×Int)} (hg:∀a b c d,eu (λv:GV×Int=>mN n v.1) (g a b c d)) (x0 x1 x2 x3 x4 x5):eu (λv:GV×Int=>mN (n+1) v.1) (Ek g x0 x1 x2 x3 x4 x5):=by
 unfold Ek;refine bD λ_ _=>bD λ_ _=>eG λ_ _=>br (bl cY) (br (bl cY) (gY (λ_=>True) (λ_=>True) (λ_=>True) trivial (λs _=> ?_) (λe _=>bD λv hv=>bl (Ck (LI hg _ _ _ _ _ v hv))) (λq _=>ey)))
 exact br (fR λ_=>fR λ_=>eX trivial) (kJ trivial)
theorem Lg:∀(n:Nat) (x0 x1 x2 x3),eu (λv:GV×Int=>mN n v.1) (sm n x0 x1 x2 x3)
 |0,_,_,_,_=>ey
 |n+1,x0,x1,x2,x3=>by
  have ih:=Lg n;unfold sm;dsimp only;refine dQ λ_ _=>br (dQ λ_ _=>dQ λ_ _=>eG λ_ _=>br (bl cY) (bl cY)) (br (bD λ_ _=>br (bl cY) (bl cY)) (br (bD λ_ _=>bD λ_ _=>bD λ_ _=>br (bl cY) (bl cY)) (br (bD λ_ _=>br (bD λv hv=>br (bl cY) (bl (LH ih _ _ _ _ _ _ v hv))) (br (bl cY) (bl cY))) (br (bD λ_ _=>bD λ_ _=>bD λ_ _=>eG λ_ _=>br (br (bl cY) (bl cY)) (br (bD λv hv=>br (bl cY) (bl (LH ih _ _ _ _ _ _ v hv))) (br (bl cY) (bl cY)))) (bD λ_ _=>bD λ_ _=>bD λv hv=>br (bl cY) (bl (Ck (LI ih _ _ _ _ _ v hv))))))))
theorem V2 (n:Nat) (x0 x1 x2 x3 x4):eu (λv:GV×Int=>mN (n+1) v.1) (C1 (n+1) x0 x1 x2 x3 x4):=by
 unfold C1;exact bD λ_ _=>br (bl cY) (eG λ_ _=>br (bl cY) (bD λ_ _=>eG λ_ _=>br (bl cY) (bD λ_ _=>bD λ_ _=>eG λ_ _=>br (bl cY) (dQ λ_ _=>bD λ_ _=>bD λv hv=>bl (Lg _ _ _ _ _ v hv)))))
def yj (n:Nat):List gJ->Prop:=dX λx=>mN n x.2.1
def BL (n:Nat):List cW->Prop:=dX λx=>yj n x.2.2.2.1
def Kg (n:Nat):List cq->Prop:=dX λx=>mN n x.2.2.2.1
def Ih (n:Nat):List c9->Prop:=dX λx=>mN n x.2.1
def DP (n:Nat) (r:bC):Prop:=BL n r.2.2.1/\Kg n r.2.2.2.1/\Ih n r.2.2.2.2.1
def UF (n:Nat) (s:mT):Prop:=dX (DP n) s.2.2.2.1
theorem MZ (n:Nat) (x0 x1 x2):eu (λv:GV×Int=>mN (n+1) v.1) (PJ (n+1) x0 x1 x2):=by
 unfold PJ;exact bD λv hv=>bl (V2 _ _ _ _ _ _ v hv)
theorem Zx (n:Nat) (x0 x1):eu (λv:List gJ×Int=>yj (n+1) v.1) (Ri (n+1) x0 x1):=by
 unfold Ri;refine dQ λ_ _=>bD λ_ _=>br (bl dX.nil) (gY (λs=>yj (n+1) s.2) (λe=>yj (n+1) e) (λq=>yj (n+1) q.1) dX.nil (λs hs=> ?_) (λe he=>bl he) (λq hq=>bl hq))
 exact br (OI λ_=>br (eX hs) (bD λ_ _=>br (gG dX.nil) (bD λv hv=>br (gG dX.nil) (fR λhc=>eX (dX.app hs hc (MZ _ _ _ _ v hv)))))) (kJ hs)
theorem Zc (n:Nat) (x0 x1):eu (λv:List cW×Int=>BL (n+1) v.1) (Yb (n+1) x0 x1):=by
 unfold Yb;refine gY (λs=>BL (n+1) s.2) (λe=>BL (n+1) e) (λq=>BL (n+1) q.1) dX.nil (λs hs=> ?_) (λe he=>bl he) (λq hq=>bl hq);exact br (dQ λ_ _=>bD λv hv=>br (gG dX.nil) (fR λhc=>eX (dX.app hs hc (Zx _ _ _ v hv)))) (kJ hs)
theorem Ze (n:Nat) (x0 x1 x2):eu (λv:List cq×Int=>Kg (n+1) v.1) (Yc (n+1) x0 x1 x2):=by
 unfold Yc;refine bD λ_ _=>br (bl dX.nil) (gY (λs=>Kg (n+1) s.2.2) (λe=>Kg (n+1) e) (λq=>Kg (n+1) q.1) dX.nil (λs hs=> ?_) (λe he=>bl he) (λq hq=>bl hq))
 refine br (dQ λ_ _=>gY (λ_=>True) (λ_=>True) (λ_=>True) trivial (λs _=>br (dQ λ_ _=>br (gG trivial) (eX trivial)) (kJ trivial)) (λe _=> ?_) (λq _=> ?_)) (kJ hs)
 ·exact eG λ_ _=>br (gG dX.nil) (br (dQ λ_ _=>dQ λ_ _=>bD λv hv=>br (gG dX.nil) (fR λhc=>eX (dX.app hs hc (MZ _ _ _ _ v hv)))) (fR λhc=>eX (dX.app hs hc cY)))
 ·exact eG λ_ _=>br (gG dX.nil) (br (dQ λ_ _=>dQ λ_ _=>bD λv hv=>br (gG dX.nil) (fR λhc=>eX (dX.app hs hc (MZ _ _ _ _ v hv)))) (fR λhc=>eX (dX.app hs hc cY)))
theorem Zg (n:Nat) (x0 x1):eu (λv:List c9×Int=>Ih (n+1) v.1) (f32 x0 x1):=by
 unfold f32;refine bD λ_ _=>br (bl dX.nil) (gY (λs=>Ih (n+1) s.2) (λe=>Ih (n+1) e) (λq=>Ih (n+1) q.1) dX.nil (λs hs=> ?_) (λe he=>bl he) (λq hq=>bl hq))
 refine br (dQ λ_ _=>eG λ_ _=>JG (λv=>v.2.2.2.2.2.2=[]) (λ_=>True) (λq=>Ih (n+1) q.1) ?_ (λv hv=>fR λhc=>eX (dX.app hs hc ?_)) (λ_ _=>ey) (λq hq=>gG hq)) (kJ hs)
 ·exact br (eX rfl) (br (eX rfl) (br (bD λ_ _=>br (gG dX.nil) (eX rfl)) (eX rfl)))
 ·rw[hv];exact cY
theorem zB (n k:Nat) (i:Int):DP n (k,(i,([],([],([],()))))):=⟨dX.nil,dX.nil,dX.nil⟩
theorem S_ (n:Nat) (x0 x1):eu (λv:bC×Int=>DP (n+1) v.1) (PI (n+1) x0 x1):=by
 unfold PI;exact dQ λ_ _=>br (bl (zB _ _ _)) (dQ λ_ _=>bD λ_ _=>br (bl (zB _ _ _)) (bD λv1 h1=>bD λv2 h2=>bD λv3 h3=>eG λ_ _=>br (bl (zB _ _ _)) (bl ⟨Zc _ _ _ v1 h1,Ze _ _ _ _ v2 h2,Zg _ _ _ v3 h3⟩)))
theorem a7D (n:Nat) (x0 x1):eu (λv:bC×Int=>DP (n+1) v.1) (f6 (n+1) x0 x1):=by
 unfold f6;exact bD λ_ _=>br (bl (zB _ _ _)) (eG λ_ _=>br (bl (zB _ _ _)) (bD λv hv=>br (bl (zB _ _ _)) (bl (S_ _ _ _ v hv))))
theorem a7E (n:Nat) (x0 x1):eu (λv:mT×Int=>UF (n+1) v.1) (f8 (n+1) x0 x1):=by
 unfold f8;refine bD λ_ _=>br (bl dX.nil) (eG λ_ _=>br (bl dX.nil) (gY (λs=>dX (DP (n+1)) s.2.2.2.2.2.2.2.2) (λs=>dX (DP (n+1)) s.2.2.2.2.2.2.2) (λq=>UF (n+1) q.1) dX.nil (λs hs=> ?_) (λe he=>bl he) (λq hq=>bl hq)))
 exact br (bD λv hv=>br (gG dX.nil) (fR λhc=>eX (dX.app hs hc (S_ _ _ _ v hv)))) (kJ hs)
theorem j8 {E Q ρ:Type} {f:Int->Option (T.LR Int E Q)} {kx:E->Option ρ} {kr:Q->Option ρ} (n:Nat) (e:E) (hn:n<9223372036854775807) (h1:∀i:Nat,i<n->f (i:Int)=some (.ok ((i+1:Nat):Int))) (h2:f (n:Int)=some (.ex e)):loop Int E Q f 0 kx kr=kx e:=by
 exact aV (λi=>(i:Int)) n e rfl ade h1 h2
theorem eqs (x:List Nat):A7 x x=true:=by rw[bc];simp
theorem qb (x:Int):bm x x=true:=by rw[aG];simp
theorem F_ (x:Nat):aR x x=true:=by rw[ax];simp
theorem eqb (x:Bool):E4 x x=true:=by rw[bg];simp
theorem nt:an true=false:=rfl
theorem nf:an false=true:=rfl
theorem ct {ρ:Type} (a b:Unit->Option ρ):T.af true a b=a ():=rfl
theorem cf {ρ:Type} (a b:Unit->Option ρ):T.af false a b=b ():=rfl
theorem qw:∀{n:Nat} {v:GV},mN n v->VS n v v=some true
 |0,_,h=>h.elim
 |n+1,v,h=>by
  unfold VS;dsimp only;rw[F_,qb,eqs,eqb,qb,nt,cf,cf,cf,cf,join_some,cf];have hl:=h.1;rw[j8 (vZ v).2.2.2.1.length () ade ?_ ?_]
  ·intro i hi;have hx:=h.2 (a8 (vZ v).2.2.2.1 i) (by rw[bz hi];exact adT hi);simp only[cZ,hi,ads,ak,adA];rw[ct,qw hx,a9,nt,cf,aU ade];rfl
  ·rw[ba];rfl
theorem LU {n:Nat} {l:List gJ} (h:yj n l):f21 n l l=some true:=by
 have hl:=h.1;unfold f21;rw[qb,nt,cf];rw[j8 l.length () ade ?_ ?_]
 ·intro i hi;have hx:=h.2 (a8 l i) (by rw[bz hi];exact adT hi);simp only[cZ,hi,ads,ak,adA];rw[ct,qb,nt,cf,qw hx,a9,nt,join_some,cf,aU ade];rfl
 ·rw[ba];rfl
theorem C2 {n:Nat} {r:bC} (h:DP n r):Z1 n r r=some true:=by
 obtain⟨h1,h2,h3⟩:=h;have l1:=h1.1;have l2:=h2.1;have l3:=h3.1;unfold Z1;rw[F_,qb,qb,qb,qb,nt,cf,cf,cf,cf,join_some,cf];rw[j8 r.2.2.1.length () ade ?_ ?_];rotate_left
 ·intro i hi;have hx:=h1.2 (a8 r.2.2.1 i) (by rw[bz hi];exact adT hi);simp only[cZ,hi,ads,ak,adA];rw[ct,qb,qb,F_,nt,cf,cf,cf,LU hx,a9,nt,join_some,cf,aU ade];rfl
 ·rw[ba];rfl
 rw[j8 r.2.2.2.1.length () ade ?_ ?_];rotate_left
 ·intro i hi;have hx:=h2.2 (a8 r.2.2.2.1 i) (by rw[bz hi];exact adT hi);simp only[cZ,hi,ads,ak,adA];rw[ct,qb,qb,eqb,nt,cf,cf,cf,qw hx,a9,nt,join_some,cf,aU ade];rfl
 ·rw[ba];rfl
 rw[j8 r.2.2.2.2.1.length () ade ?_ ?_]
 ·intro i hi;have hx:=h3.2 (a8 r.2.2.2.2.1 i) (by rw[bz hi];exact adT hi);simp only[cZ,hi,ads,ak,adA];rw[ct,F_,F_,nt,cf,cf,qw hx,a9,nt,join_some,cf,aU ade];rfl
 ·rw[ba];rfl
theorem KY {n:Nat} {s:mT} (h:UF n s):f11 n s s=some true:=by
 have hl:=h.1;unfold f11;rw[F_,qb,qb,qb,nt,cf,cf,cf,join_some,cf];rw[j8 s.2.2.2.1.length () ade ?_ ?_]
 ·intro i hi;have hx:=h.2 (a8 s.2.2.2.1 i) (by rw[bz hi];exact adT hi);simp only[cZ,hi,ads,ak,adA];rw[ct,C2 hx,a9,nt,cf,aU ade];rfl
 ·rw[ba];rfl
theorem MV {l:List aT} (h:Fit (.sl ca) l):f44 l l=some true:=by
 have hl:=h.len;unfold f44;rw[qb,nt,cf];rw[j8 l.length () ade ?_ ?_]
 ·intro i hi;have hx:=(h.at hi).2.2.2.1.len;simp only[cZ,hi,ads,ak,adA];rw[ct,F_,qb,qb,nt,cf,cf,cf,Ce ade,a9,nt,join_some,cf,aU ade];rfl
 ·rw[ba];rfl
theorem Z0 (x:dh):BZ x x=true:=by
 show(bm x.1 x.1&&(aR x.2.1 x.2.1&&true))=_;rw[qb,F_];rfl
theorem KN (x:ib):FY x x=true:=by
 show(bm x.1 x.1&&(bm x.2.1 x.2.1&&(bm x.2.2.1 x.2.2.1&&(bm x.2.2.2.1 x.2.2.2.1&&true))))=_;rw[qb,qb,qb,qb];rfl
theorem IA (x:d8):nb x x=true:=by
 show(aR x.1 x.1&&(aR x.2.1 x.2.1&&(aR x.2.2.1 x.2.2.1&&(aR x.2.2.2.1 x.2.2.2.1&&(aR x.2.2.2.2.1 x.2.2.2.2.1&&(bm x.2.2.2.2.2.1 x.2.2.2.2.2.1&&true))))))=_;rw[F_,F_,F_,F_,F_,qb];rfl
theorem xc {l:List dh}:rj l l=true:=by
 unfold rj;rw[adm rfl,adW,adE];exactλi _=>Z0 _
theorem MW {f:bY} (hf:Fit iE f):Yd f f=some true:=by
 have h:=T5 hf (s:=f.2.2.2.2.2.1) (v:=f.2.2.2.2.2.2.1) (by have:=hf.2.2.2.2.2.1.len;omega) (by have:=hf.2.2.2.2.2.2.1.len;omega);rw[xc,xc] at h;exact h
theorem M1 {m:aK} (h:Fit bJ m):f23 m m=some true:=by
 have h2:=h.2.1.len;have h3:=h.2.2.1.len;unfold f23;rw[MV h.1,a9,qb,qb,nt,cf,cf,join_some,cf];rw[j8 m.2.1.length () ade ?_ ?_];rotate_left
 ·intro i hi;simp only[cZ,hi,ads,ak,adA];rw[ct,eqs,nt,cf,aU ade];rfl
 ·rw[ba];rfl
 rw[j8 m.2.2.1.length () ade ?_ ?_]
 ·intro i hi;simp only[cZ,hi,ads,ak,adA];rw[ct,MW (h.2.2.1.at hi),a9,nt,cf,aU ade];rfl
 ·rw[ba];rfl
theorem Ca (x:aq):Z7 x x=some true:=by
 unfold Z7;rw[F_,ct,eqs,join_some]
theorem Mp {l:List d8} (h:l.length<=5000):f25 l l=some true:=by
 unfold f25;rw[lT (e:=nb) ade,adm rfl,adW];congr 1;rw[adE];exactλi _=>IA _
theorem L8 {m:bf} (h:Fit bH m):f12 m m=some true:=by
 obtain⟨h1,h2,h3,h4,h5,h6⟩:=h;have l4:=h4.len;unfold f12;rw[M1 h1,a9,KN,Ca,a9,qb,Mp h5.len,a9,qb,nt,cf,cf,cf,cf,cf,join_some,cf];rw[j8 m.2.2.2.1.length () ade ?_ ?_]
 ·intro i hi;simp only[cZ,hi,ads,ak,adA];rw[ct,Ca,a9,nt,cf,aU ade];rfl
 ·rw[ba];rfl
theorem SX {x:aq} (h:x.2.1.length<=5000):SW x=some x:=by
 unfold SW;rw[aY (by rw[ay];omega)];rfl
theorem Z4 {l:List d8} (h:l.length<=5000):f16 l=some l:=by
 unfold f16;rw[aY (by rw[ay];omega)];rfl
theorem a7B {m:bf} (h:Fit bH m):f5 m=some m:=by
 obtain⟨h1,h2,h3,h4,h5,h6⟩:=h;have l4:=h4.len;unfold f5;rw[SV h1,a9,SX h3.2.1.len,a9];rw[aV (λi=>((i:Int),m.1,m.2.1,m.2.2.1.1,(),(m.2.2.2.2.1,(m.2.2.2.2.2.1,())),m.2.2.1.2.1,m.2.2.2.1.take i)) m.2.2.2.1.length (m.1,m.2.1,m.2.2.1.1,(),(m.2.2.2.2.1,(m.2.2.2.2.2.1,())),m.2.2.1.2.1,m.2.2.2.1) ?_ ade ?_ ?_]
 ·rw[Z4 h5.len];rfl
 ·rfl
 ·intro i hi;have ht:(m.2.2.2.1.take i).length<=5000:=by rw[adY];omega
  simp only[cZ,hi,ads,ak,adA];rw[ct,SX (h4.at hi).2.1.len,a9,aY (by rw[ay];omega),aU ade,List.take_succ_eq_append_getElem hi,<-bz hi];rfl
 ·rw[List.take_length,ba];rfl
theorem a0z {m:bf} (h:rY bH m) (i:Int) (e:nT):f3 202 m i e=some true:=by
 unfold f3;rcases WB h with hg|⟨hg,hf⟩
 ·rw[hg,a9,ct]
 ·obtain⟨r,r1,r2⟩:=Ij hf (n:=202) ade i;obtain⟨s,s1,s2⟩:=a7k hf (n:=202) ade e;rw[hg,a9,cf,a7B hf,a9,r1,a9,r2,a9,s1,a9,s2,a9,C2 (a7D _ _ _ r r1),a9,ct,qb,ct,KY (a7E _ _ _ s s1),a9,ct,qb,ct,L8 hf,a9,join_some]
end Go.Proofs.YtbjcjppphoppfaaGreat.M
namespace Go.Proofs.YtbjcjppphoppfaaGreat.T
open Go
def y7 (P:Program):Ty->Option (List Field×Nat)->TypeId->Bool
 | .un,some ([],_),_=>true
 | .pr a c,some (f::r,o),t=>Nat.beq f.offset o&&y7 P a none f.type&&y7 P c (some (r,o+a.cells)) t
 | .pr a c,none,t=>(match bU P t with|some (.struct fs)=>(match fs.toList with|f::r=>Nat.beq f.offset 0&&y7 P a none f.type&&y7 P c (some (r,a.cells)) t|[]=>false)|_=>false)&&Nat.beq (cg P t) (a.cells+c.cells)
 | .b,none,t=>(match bU P t with|some .bool=>true|_=>false)&&Nat.beq (cg P t) 1
 | .s,none,t=>(match bU P t with|some .string=>true|_=>false)&&Nat.beq (cg P t) 1
 | .i k,none,t=>(match bU P t with|some (.int q)=>Nat.beq (kc q) k&&Nat.ble k 3|_=>false)&&Nat.beq (cg P t) 1
 | .u k,none,t=>(match bU P t with|some (.int q)=>Nat.beq (kc q) k&&Nat.ble 4 k|_=>false)&&Nat.beq (cg P t) 1
 | .sl e,none,t=>(match bU P t with|some (.slice u)=>y7 P e none u&&Nat.ble 1 e.cells|_=>false)&&Nat.beq (cg P t) 1
 |_,_,_=>false
theorem a3l {q:IntKind} {n:Int} (h:(Lit.int q n).wf=true):(kc q<4->ix (kc q) n)/\(4<=kc q->0<=n/\n<fo (kc q)):=by
 cases q<;>simp[Lit.wf,IntKind.min,IntKind.max,IntKind.signed,IntKind.bits] at h<;>simp[kc,ix,fo]<;>omega
theorem vy {P:Program} {t:TypeId} {d:TypeDesc} (h:bU P t=some d):P.cellsOf t=cg P t:=by
 obtain⟨_,i,h1,h2⟩:=bp h;unfold Program.cellsOf cg;rw[h1,h2];rfl
theorem zi {P:Program}:∀{τ:Ty} {t:TypeId},y7 P τ none t=true->P.cellsOf t=τ.cells:=by
 intro τ t h;cases τ<;>simp only[y7,adr] at h<;>(try cases h)
 all_goals
  rename_i h1 h2;refine Eq.trans ?_ (adu h2);split at h1<;>first|exact vy (by assumption)|cases h1
theorem Y_:0<dU:=by decide
theorem Ov {v:Value} (h:v.oneCell'=true):∀u∈[v],u.oneCell'=true:=λu hu=>by
 rw[adF] at hu;subst hu;exact h
theorem KL (cs:List Value) (o i:Nat):fw (cs.drop o).toArray i=fw cs.toArray (o+i):=by
 unfold fw;simp[adD]
theorem Po {cs:List Value} {k i:Nat} (h:i<k):fw (cs.take k).toArray i=fw cs.toArray i:=by
 unfold fw;simp[adD,List.getElem?_take,h]
theorem BQ (b off i:Nat):(⟨b,off,none⟩:Addr).add i=⟨b,off+i,none⟩:=by
 unfold Addr.add;split
 ·subst_vars;rfl
 ·rfl
section
variable {H:Type} {enc:TypeId×Value->H} {P:Program} {w:World} {base:Nat} {spare:Nat->Bool} {held:Bool}
def yp (P:Program) (w:World) (τ:Ty) (cs:List Value):Prop:=cs.length=τ.cells/\(∀v∈cs,v.oneCell'=true)/\∃y:τ.T,bI (λ_=>False) w τ y (fw cs.toArray) 0
theorem j_ {τ:Ty} {v:Value} (hc:τ.cells=1) (h:v.oneCell'=true) (y:τ.T) (hy:bI (λ_=>False) w τ y (fw [v].toArray) 0):yp P w τ [v]:=⟨hc.symm,Ov h,y,hy⟩
theorem S9 {e:Ty} {t u:TypeId} {n:Nat} {cs:List Value} {x:DataW H×List MemPlace} (ht:P.underlying t=some (.slice u)) (hc:P.cellsOf u=e.cells) (h0:1<=e.cells)
 (ho:∀n cs x,DataW.trod enc P w base spare held n u cs=some x->yp P w e cs) (h:DataW.trod enc P w base spare held n t cs=some x):yp P w (.sl e) cs:=by
 rcases DataW.trod_slice ht h with⟨rfl,_⟩|⟨a,len,cap,elems,rest,m',rfl,rfl,_,_,hle,hm,hlen,hel,_,_⟩
 ·exact j_ rfl rfl (τ:= .sl e) [] ⟨Y_,h0, .inl ⟨rfl,none,0,rfl,λ_=>rfl⟩⟩
 ·have hmx:maxLen=9223372036854775807:=by decide
  have hb:len<dU:=by unfold dU;omega
  by_cases hz:len=0
  ·subst hz;exact j_ rfl rfl (τ:= .sl e) [] ⟨Y_,h0, .inl ⟨rfl,some a,cap,rfl,λh=>by cases h⟩⟩
  ·have key:∀i:Nat,i<len->∃c,w.cells? base (a.add (i*e.cells)) e.cells=some c/\yp P w e c:=by
    intro i hi;have h1:=hel i hi;rw[ae2 ade,hc] at h1;obtain⟨c,h2,h3⟩:=aeq.1 h1;exact⟨c,h2,ho m' c _ h3⟩
   obtain⟨c0,hc0,hl0,_,_⟩:=key 0 ade;obtain⟨_,_,WR⟩:=World.cells?_some hc0;have ha:=WR 0 h0;rw[aen] at ha;have ha:w.cell? a=c0[0]? :=by simpa[Addr.add] using ha
   rw[ae2 ade] at ha;obtain⟨b,off,spot⟩:=a;unfold World.cell? at ha;split at ha;rotate_left
   ·cases ha
   rename_i cells T fz Rs;have hs:spot=none:=by
    cases spot with
    |none=>rfl
    |some s=>simp at ha
   subst hs;have Rs:w.heap[b]? =some (.cells cells T fz):=Rs;have cellE:∀k,w.cell? ⟨b,k,none⟩=cells[k]? :=λk=>by
    unfold World.cell?;show(match w.heap[b]? with|some (.cells c _ _)=>_|_=>_)=_;rw[Rs];rfl
   have rU:∀i,i<len->∃y:e.T,bI (λ_=>False) w e y (fw cells) (off+i*e.cells)/\off+i*e.cells+e.cells<=cells.size:=by
    intro i hi;obtain⟨c,h1,h2,_,y,hy⟩:=key i hi;obtain⟨_,_,h3⟩:=World.cells?_some h1;have h4:∀j,j<e.cells->cells[off+i*e.cells+j]? =c[j]? :=λj hj=>by
     have:=h3 j hj;rw[BQ,BQ,cellE] at this;exact this
    refine⟨y,bI.dP e y (λj hj=> ?_) hy,?_⟩
    ·have:=h4 j hj;unfold fw;rw[adD,adD,this];simp
    ·have:=h4 (e.cells-1) ade;rw[ae2 ade] at this;have:=(ae3.1 this).1;omega
   let f:Nat->e.T:=λi=>if hi:i<len then Classical.choose (rU i hi) else e.zero
   have hf:∀i,i<len->bI (λ_=>False) w e (f i) (fw cells) (off+i*e.cells):=λi hi=>by
    simp only[f,dif_pos hi];exact(Classical.choose_spec (rU i hi)).1
   refine j_ rfl rfl (τ:= .sl e) ((List.range len).map f) ?_;have hl:List.length ((List.range len).map f)=len:=by simp
   show vj _ w e.cells (List.length ((List.range len).map f)) _ _;rw[hl];refine⟨hb,h0, .inr ⟨b,off,cap,cells,T,fz,rfl,hle,λh=>h,Rs,?_,?_⟩⟩
   ·obtain⟨_,_,h5⟩:=rU (len-1) ade;have:len*e.cells=(len-1)*e.cells+e.cells:=by
     conv=>lhs;rw[show len=(len-1)+1 by omega]
     rw[aei,aeo]
    omega
   ·refine bQ.of λi y hy=> ?_
    have K4:i<len:=by
     have:=(aee.1 hy).1;simpa using this
    rw[List.getElem?_map,List.getElem?_range K4] at hy;obtain rfl:f i=y:=by simpa using hy
    exact hf i K4
def FL (P:Program) (w:World) (τ:Ty) (o:Nat) (cs:List Value):Prop:=(∀v∈cs.drop o,v.oneCell'=true)/\∃y:τ.T,bI (λ_=>False) w τ y (fw cs.toArray) o
theorem Xy {a c:Ty} {o:Nat} {cs:List Value} (h1:yp P w a ((cs.drop o).take a.cells)) (h2:FL P w c (o+a.cells) cs):FL P w (.pr a c) o cs:=by
 obtain⟨_,p1,y,hy⟩:=h1;obtain⟨p2,z,hz⟩:=h2;refine⟨λv hv=> ?_,(y,z),?_,hz⟩
 ·rw[<-List.take_append_drop a.cells (cs.drop o),adC,List.drop_drop] at hv;exact hv.elim (p1 v) (p2 v)
 ·refine bI.dP a y (λj hj=> ?_) hy;rw[Po ade,KL,adI]
theorem qY:∀(τ:Ty),(∀t,y7 P τ none t=true->∀n cs x,DataW.trod enc P w base spare held n t cs=some x->yp P w τ cs)/\
 (∀fs o t,y7 P τ (some (fs,o)) t=true->∀n cs,cs.length=o+τ.cells->(∀f∈fs,∃z,DataW.trod enc P w base spare held n f.type ((cs.drop f.offset).take (P.cellsOf f.type))=some z)->FL P w τ o cs)
 | .i k=>⟨λt hk n cs x h=>by
    have hk:((match bU P t with|some (.int q)=>Nat.beq (kc q) k&&Nat.ble k 3|_=>false)&&Nat.beq (cg P t) 1)=true:=hk;rw[adr] at hk;obtain⟨hk,-⟩:=hk;split at hk
    ·rename_i q hu;rw[adr] at hk;have e:=adu hk.1;subst e;obtain⟨v,e1,-,h2⟩:=DataW.trod_int (bp hu).1 h;subst e1;have h4:=adv hk.2;exact j_ rfl rfl (τ:= .i (kc q)) v ⟨by rw[CC];rfl,ade,(a3l h2).1 ade⟩
    ·exact(by cases hk),λfs o t h=>by cases fs<;>cases h⟩
 | .u k=>⟨λt hk n cs x h=>by
    have hk:((match bU P t with|some (.int q)=>Nat.beq (kc q) k&&Nat.ble 4 k|_=>false)&&Nat.beq (cg P t) 1)=true:=hk;rw[adr] at hk;obtain⟨hk,-⟩:=hk;split at hk
    ·rename_i q hu;rw[adr] at hk;have e:=adu hk.1;subst e;obtain⟨v,e1,-,h2⟩:=DataW.trod_int (bp hu).1 h;subst e1;have h4:=adv hk.2;obtain⟨g1,g2⟩:=(a3l h2).2 h4;exact j_ rfl rfl (τ:= .u (kc q)) v.toNat ⟨by rw[CC,Int.toNat_of_nonneg g1];rfl,h4,Hf q,(Int.toNat_lt g1).2 g2⟩
    ·exact(by cases hk),λfs o t h=>by cases fs<;>cases h⟩
 | .b=>⟨λt hk n cs x h=>by
    have hk:((match bU P t with|some .bool=>true|_=>false)&&Nat.beq (cg P t) 1)=true:=hk;rw[adr] at hk;obtain⟨hk,-⟩:=hk;split at hk
    ·rename_i hu;obtain⟨b,e1⟩:∃b,cs=[.bool b]:=by
      cases n with
      |zero=>simp[DataW.trod] at h
      |succ n=>
       unfold DataW.trod at h;rw[(bp hu).1] at h;split at h<;>simp_all
     subst e1;exact j_ rfl rfl (τ:= .b) b rfl
    ·exact(by cases hk),λfs o t h=>by cases fs<;>cases h⟩
 | .s=>⟨λt hk n cs x h=>by
    have hk:((match bU P t with|some .string=>true|_=>false)&&Nat.beq (cg P t) 1)=true:=hk;rw[adr] at hk;obtain⟨hk,-⟩:=hk;split at hk
    ·rename_i hu;obtain⟨s,e1,e2⟩:∃s,cs=[.string s]/\s.size<=maxLen:=by
      cases n with
      |zero=>simp[DataW.trod] at h
      |succ n=>
       unfold DataW.trod at h;rw[(bp hu).1] at h;split at h<;>simp_all
     subst e1;have hmx:maxLen=9223372036854775807:=by decide
     exact j_ rfl rfl (τ:= .s) (bZ s) ⟨s,rfl,rfl,by rw[dv];unfold dU;omega⟩
    ·exact(by cases hk),λfs o t h=>by cases fs<;>cases h⟩
 | .sl e=>⟨λt hk n cs x h=>by
    have hk:((match bU P t with|some (.slice u)=>y7 P e none u&&Nat.ble 1 e.cells|_=>false)&&Nat.beq (cg P t) 1)=true:=hk;rw[adr] at hk;obtain⟨hk,-⟩:=hk;split at hk
    ·rename_i u hu;rw[adr] at hk;exact S9 (bp hu).1 (zi hk.1) (adv hk.2) (λn cs x h=>(qY e).1 u hk.1 n cs x h) h
    ·exact(by cases hk),λfs o t h=>by cases fs<;>cases h⟩
 | .un=>⟨λt h=>(by cases h),λfs o t h n cs hl _=>by
    refine⟨λv hv=> ?_,(),trivial⟩;have hl:cs.length=o:=hl;rw[List.drop_of_length_le ade] at hv;cases hv⟩
 | .pr a c=>by
   have key:∀f r o t,(Nat.beq f.offset o&&y7 P a none f.type&&y7 P c (some (r,o+a.cells)) t)=true->∀n cs,cs.length=o+(a.cells+c.cells)->(∀f'∈f::r,∃z,DataW.trod enc P w base spare held n f'.type ((cs.drop f'.offset).take (P.cellsOf f'.type))=some z)->FL P w (.pr a c) o cs:=by
    intro f r o t h n cs hl hf;rw[adr,adr] at h;obtain⟨⟨h1,h2⟩,h3⟩:=h;have e:=adu h1;obtain⟨z,hz⟩:=hf f (adt);rw[zi h2,e] at hz;exact Xy ((qY a).1 _ h2 n _ z hz) ((qY c).2 r (o+a.cells) t h3 n cs ade λf' hf'=>hf f' (ady _ hf'))
   refine⟨λt hk n cs x h=> ?_,λfs o t h n cs hl hf=> ?_⟩
   ·have hk:((match bU P t with|some (.struct fs)=>(match fs.toList with|f::r=>Nat.beq f.offset 0&&y7 P a none f.type&&y7 P c (some (r,a.cells)) t|[]=>false)|_=>false)&&Nat.beq (cg P t) (a.cells+c.cells))=true:=hk;rw[adr] at hk;obtain⟨hk,mK⟩:=hk;split at hk;rotate_left
    ·cases hk
    rename_i fs hu;split at hk;rotate_left
    ·cases hk
    rename_i f r hfs;obtain⟨xs,m,rfl,-,hlen,hxl,oO⟩:=DataW.trod_struct (bp hu).1 h;rw[vy hu,adu mK] at hlen;have hF:=key f r 0 t (by rw[adI];exact hk) m cs ade λf' hf'=>by
     rw[<-hfs] at hf';obtain⟨i,hi,he⟩:=List.mem_iff_getElem.1 hf';have hi':i<fs.size:=by simpa using hi
     have h1:=oO i f' (by rw[adX hi'];simpa using he);rw[ae2 ade] at h1;exact⟨_,h1⟩
    have h0:=hF.1;rw[List.drop_zero] at h0;exact⟨hlen,h0,hF.2⟩
   ·cases fs with
    |nil=>cases h
    |cons f r=>exact key f r o t h n cs hl hf
 | .ar _ _=>⟨λt h=>(by cases h),λfs o t h=>by cases fs<;>cases h⟩
 | .gv=>⟨λt h=>(by cases h),λfs o t h=>by cases fs<;>cases h⟩
end
end Go.Proofs.YtbjcjppphoppfaaGreat.T
namespace Go.Proofs.YtbjcjppphoppfaaGreat.T
open Go Go.RowKit
theorem r9 {F:Nat->Prop} {w:World}:∀(t:Ty) (x:t.T) (c:Nat->Value) (o:Nat),bI F w t x c o->M.rY t x
 | .i _,_,_,_,h=>h.2.2
 | .u _,_,_,_,h=>h.2.2.2
 | .b,_,_,_,_=>trivial
 | .s,x,_,_,⟨s,_,e,h⟩=>⟨h,λc hc=>by
     subst e;obtain⟨u,_,rfl⟩:=List.mem_map.1 hc;exact u.toNat_lt⟩
 | .sl e,l,c,o,⟨h1,_,h⟩=>⟨h1,λx hx=>by
    rcases h with⟨h,_⟩|⟨b,p,_,cs,_,_,_,_,_,_,_,h⟩
    ·rw[List.length_eq_zero_iff.1 h] at hx;cases hx
    ·obtain⟨i,hi,e1⟩:=List.mem_iff_getElem.1 hx;exact r9 e x (fw cs) _ (h.nth (i:=i) (by rw[ae2 hi,e1]))⟩
 | .pr a b,x,c,o,⟨h1,h2⟩=>⟨r9 a x.1 c o h1,r9 b x.2 c _ h2⟩
 | .un,_,_,_,_=>trivial
 | .ar n e,l,c,o,⟨h1,h⟩=>⟨h1,λx hx=>by
    obtain⟨i,hi,e1⟩:=List.mem_iff_getElem.1 hx;exact r9 e x c _ (h.nth (i:=i) (by rw[ae2 hi,e1]))⟩
 | .gv,_,_,_,_=>trivial
def bs0 (w:World):Bs:=⟨λ_=>False,[],[],w⟩
def fx0 (w:World):Fx:=⟨λ_=>False,w,λb=>b<w.heap.size,[],[]⟩
theorem a8j (w:World):bw (fx0 w) (bs0 w) where
 len:=rfl
 bP:=λj=>jO (by show¬7<=2;decide)
 inj:=λi j b s s' h _ hb=>by cases hb
 lo:=λj b s _ hb=>by cases hb
 fr:=λj b s _ hb=>by cases hb
 old:=λb h=>⟨h,rfl⟩
 nx:=adw _
 xo:=λb h=>h.elim
 io:=⟨rfl,rfl⟩
 F0:=rfl
 DO:=λx h=>by cases h
 lk:=λx h=>by cases h
theorem WG {P:Program} {f:Nat} {F:bB} (hF:aL P f F) {a:List Ty} {g:fE.T a->R (fE.T [.b])} (e:F=⟨a,[.b],false,g⟩) {x:fE.T a} (h:g x=some true) {args:Array Value} {w:World} (hA:oU (λ_=>False) w a x args.toList):
 Calls P f args w λr w'=>r= .returned (.bool true)/\Below w.heap.size w w':=by
 subst e;have k:=hF.2.2 (fx0 w) (bs0 w) (λ_=>False) x true args 0 (a8j w) (λ_ h=>h.elim) (.inl rfl) hA h;refine(callsIn_wide.1 k).mono λr w' ⟨v,B',e1,e2,_,I,_,hv⟩=> ?_
 subst e1;subst e2;have hv:xI false 1 v/\cv v 0= .bool true:=hv;refine⟨?_,(Prod.mk.inj I.io.1).1,(Prod.mk.inj I.io.1).2,I.io.2,I.nx,λb hb=>(I.old b hb).2⟩;obtain⟨h1,h2⟩:=hv;have h1:v.oneCell'=true:=h1.1;cases v<;>first|exact congrArg _ h2|cases h1
end Go.Proofs.YtbjcjppphoppfaaGreat.T
namespace Go.Proofs.YtbjcjppphoppfaaGreat.T
open Go
section
variable {H:Type} {enc:TypeId×Value->H} {P:Program} {w:World} {base base':Nat} {spare:Nat->Bool} {held:Bool} {d:DataW H} {p:List MemPlace}
theorem C_ {a c:Ty} {t:TypeId} {v:Value} {r:Reach} (hk:y7 P (.pr a c) none t=true) (hv:Value.okWide P w r base' t v) (h:DataW.Trod enc P w base spare held t v d p):
 ∃y:(Ty.pr a c).T,xI (Ty.pr a c).ag (Ty.pr a c).cells v/\bI (λ_=>False) w (.pr a c) y (cv v) 0:=by
 obtain⟨n,h⟩:=h;have hu:∃fs,P.underlying t=some (.struct fs):=by
  have hk:((match bU P t with|some (.struct fs)=>(match fs.toList with|f::r=>Nat.beq f.offset 0&&y7 P a none f.type&&y7 P c (some (r,a.cells)) t|[]=>false)|_=>false)&&Nat.beq (cg P t) (a.cells+c.cells))=true:=hk;rw[adr] at hk;obtain⟨hk,-⟩:=hk;split at hk
  ·rename_i fs hu;exact⟨fs,(bp hu).1⟩
  ·cases hk
 obtain⟨fs,hu⟩:=hu;unfold Value.okWide at hv;rw[hu] at hv;obtain⟨cs,rfl,-,-⟩:=hv;obtain⟨h1,h2,y,hy⟩:=(qY (.pr a c)).1 t hk n _ _ h;have e:(Value.agg cs).cells.toList.toArray=cs:=by simp[Value.cells]
 rw[e] at hy;refine⟨y,⟨cs,rfl,?_,λu hu=>h2 u ?_⟩,hy⟩
 ·simpa[Value.cells] using h1
 ·simpa[Value.cells] using hu
theorem open_int {k:Nat} {t:TypeId} {v:Value} {r:Reach} (hk:y7 P (.i k) none t=true) (hv:Value.okWide P w r base' t v) (h:DataW.Trod enc P w base spare held t v d p):
 ∃y:Int,xI (Ty.i k).ag (Ty.i k).cells v/\bI (λ_=>False) w (.i k) y (cv v) 0:=by
 obtain⟨n,h⟩:=h;have hu:∃q,P.underlying t=some (.int q):=by
  have hk:((match bU P t with|some (.int q)=>Nat.beq (kc q) k&&Nat.ble k 3|_=>false)&&Nat.beq (cg P t) 1)=true:=hk;rw[adr] at hk;obtain⟨hk,-⟩:=hk;split at hk
  ·rename_i q hu;exact⟨q,(bp hu).1⟩
  ·cases hk
 obtain⟨q,hu⟩:=hu;unfold Value.okWide at hv;rw[hu] at hv;obtain⟨h1,h2,y,hy⟩:=(qY (.i k)).1 t hk n _ _ h;cases v<;>first|exact⟨y,⟨rfl,rfl⟩,hy⟩|(simp[Cell.okWide,Cell.ok,hu] at hv)
end
end Go.Proofs.YtbjcjppphoppfaaGreat.T
