import Derived.Test.YtbjcjppphoppfaaGreatEAC
set_option linter.all false
namespace Go.Proofs.YtbjcjppphoppfaaGreat.T
open Go
noncomputable section
section nat
variable {ρ:Type} {T:CT} {s:TS}
abbrev B1 (K:TV->R ρ) (x:R TV):R ρ:=Option.bind x K
abbrev B2 (K:TV->TS->R ρ) (x:R (TV×TS)):R ρ:=Option.bind x λp=>K p.1 p.2
abbrev gz:TV->R TV:=some
abbrev dA:TV->TS->R (TV×TS):=λv s=>some (v,s)
theorem bx {α:Type} {x:R α} {y:R ρ} {K:α->R ρ} (c:Bool) (h:y=Option.bind x K):(bif c then y else none)=Option.bind (bif c then x else none) K:=by cases c;rfl;exact h
theorem O3 {α:Type} {x:R α} {y:R ρ} {K:α->R ρ} (n:Nat) (h:y=Option.bind x K):gO n y=Option.bind (gO n x) K:=by rw[e9,e9];split;rfl;exact h
theorem S0 {α:Type} {x:R α} {y:R ρ} {K:α->R ρ} (n:Int) (h:y=Option.bind x K):O2 n y=Option.bind (O2 n x) K:=by rw[zf,zf];split;rfl;exact h
theorem Q7 {α:Type} {x x':Unit->R α} {y y':Unit->R ρ} {K:α->R ρ} (c:Bool) (h:y ()=Option.bind (x ()) K) (h':y' ()=Option.bind (x' ()) K):af c y y'=Option.bind (af c x x') K:=by cases c;exact h';exact h
theorem j5 {α:Type} {x:R α} {y:R ρ} {K:α->R ρ} (c:Prop) (h:y=Option.bind x K):(bif dec c then y else none)=Option.bind (bif dec c then x else none) K:=bx _ h
theorem gp {α:Type} {x x':R α} {y y':R ρ} {K:α->R ρ} (c:Bool) (h:y=Option.bind x K) (h':y'=Option.bind x' K):(bif c then y else y')=Option.bind (bif c then x else x') K:=by cases c;exact h';exact h
theorem xm (op:BinOp) (t:TypeId) (a b:TV) (K:TV->R ρ):FB T op t a b K=B1 K (FB T op t a b gz):=by
 unfold FB;split
 ·apply bx;cases op<;>first|rfl|exact j5 _ rfl|exact S0 _ rfl
 ·apply bx;cases op<;>first|rfl|exact bx _ rfl|exact bx _ (O3 _ rfl)
 ·apply bx;cases op<;>first|rfl|exact j5 _ rfl
 ·apply bx;cases op<;>first|rfl|exact j5 _ rfl
 ·apply bx;cases op<;>rfl
 ·apply bx;cases op<;>first|rfl|exact j5 _ rfl
 ·rfl
theorem xu (op:BinOp) (t:TypeId) (a:TV) (K:TV->R ρ):FG T op t a K=B1 K (FG T op t a gz):=by
 unfold FG;split
 ·split<;>rfl
 ·rfl
theorem Bo (op:BinOp) (t:TypeId) (a b:TV) (K:TV->R ρ):SD T s op t a b K=B1 K (SD T s op t a b gz):=by
 unfold SD;split
 ·apply bx;split
  ·cases op<;>rfl
  ·rfl
 ·rfl
theorem Bt (op:UnOp) (a:TV) (K:TV->R ρ):YH op a K=B1 K (YH op a gz):=by
 unfold YH;split<;>rfl
theorem qq {α:Type} {x:R α} {y:R ρ} {K:α->R ρ} (n:N) (h:y=Option.bind x K):bj n y=Option.bind (bj n x) K:=j5 _ h
theorem JS (t d:TypeId) (a:TV) (K:TV->TS->R ρ):kM T s t d a K=B2 K (kM T s t d a dA):=by
 unfold kM;split
 ·split
  ·exact gp _ rfl (bx _ rfl)
  ·exact gp _ rfl (bx _ (gp _ rfl rfl))
  ·rfl
 ·split<;>rfl
 ·apply bx;split
  ·exact qq _ rfl
  ·rfl
 ·apply bx;split<;>rfl
 ·rfl
theorem FC (t:TypeId) (ps:List (Nat×Operand)) (K:TV->TS->R ρ):pZ T s t ps K=B2 K (pZ T s t ps dA):=by
 unfold pZ;split
 ·apply bx;split<;>rfl
 ·apply bx;split
  ·exact bx _ rfl
  ·rfl
 ·rfl
theorem uu (t:TypeId) (n:Nat) (ps:List (Nat×Operand)) (K:TV->TS->R ρ):fV T s t n ps K=B2 K (fV T s t n ps dA):=by
 unfold fV;split
 ·apply bx;split<;>rfl
 ·rfl
theorem xl (t:TypeId) (a:Option TV) (K:TV->TS->R ρ):mB T s t a K=B2 K (mB T s t a dA):=by
 unfold mB;split
 ·apply bx;split
  ·exact bx _ rfl
  ·exact bx _ rfl
 ·split
  ·exact bx _ rfl
  ·rfl
theorem ox (t:TypeId) (a:TV) (K:TV->R ρ):nJ T s t a K=B1 K (nJ T s t a gz):=by
 unfold nJ;split
 ·exact bx _ rfl
 ·exact bx _ (bx _ rfl)
 ·rfl
theorem kg (t:TypeId) (k:Nat) (a:TV) (K:TV->R ρ):iW T s t k a K=B1 K (iW T s t k a gz):=by
 unfold iW;split
 ·split
  ·apply bx;split
   ·split
    ·split
     ·exact bx _ rfl
     ·rfl
    ·rfl
   ·split
    ·exact bx _ rfl
    ·rfl
   ·rfl
  ·rfl
 ·rfl
theorem jE {α:Type} (n:N) (i:TV) {K:α->R ρ} {f:N->R ρ} {g:N->R α} (h:∀n,f n=Option.bind (g n) K):BW n i f=Option.bind (BW n i g) K:=by
 unfold BW;split
 ·exact j5 _ (h _)
 ·exact j5 _ (h _)
 ·rfl
theorem qp {α:Type} (n:N) (i:TV) {K:α->R ρ} {f:N->R ρ} {g:N->R α} (h:∀n,f n=Option.bind (g n) K):K1 n i f=Option.bind (K1 n i g) K:=by
 unfold K1;split
 ·exact j5 _ (h _)
 ·exact j5 _ (h _)
 ·rfl
theorem jb {α:Type} (n:N) (lo hi:Option TV) {K:α->R ρ} {f:Bool->N->N->R ρ} {g:Bool->N->N->R α} (h:∀b n m,f b n m=Option.bind (g b n m) K):im n lo hi f=Option.bind (im n lo hi g) K:=by
 unfold im;split
 ·split
  ·exact h _ _ _
  ·exact qp _ _ λ_=>h _ _ _
 ·refine qp _ _ λ_=> ?_
  split
  ·exact h _ _ _
  ·exact qp _ _ λ_=>h _ _ _
theorem kh (t:TypeId) (a i:TV) (K:TV->R ρ):iX T s t a i K=B1 K (iX T s t a i gz):=by
 unfold iX;split
 ·apply bx;split
  ·exact bx _ (jE _ _ λ_=>rfl)
  ·split
   ·exact bx _ (jE _ _ λ_=>rfl)
   ·rfl
  ·split
   ·exact bx _ (jE _ _ λ_=>rfl)
   ·rfl
  ·split
   ·exact bx _ (jE _ _ λ_=>rfl)
   ·rfl
  ·rfl
 ·apply bx;split
  ·exact bx _ (jE _ _ λ_=>rfl)
  ·split
   ·exact bx _ (jE _ _ λ_=>rfl)
   ·rfl
  ·rfl
 ·rfl
theorem q8 (t:TypeId) (a i:TV) (K:TV->R ρ):te T t a i K=B1 K (te T t a i gz):=by
 unfold te;split
 ·split
  ·exact bx _ (jE _ _ λ_=>rfl)
  ·rfl
 ·split
  ·exact jE _ _ λ_=>rfl
  ·rfl
 ·rfl
theorem p_ (t:TypeId) (k:Nat) (a:TV) (K:TV->R ρ):td T t k a K=B1 K (td T t k a gz):=by
 unfold td;split
 ·split
  ·exact bx _ rfl
  ·rfl
 ·rfl
theorem Dw {α:Type} (t:TypeId) (a:TV) {K:α->R ρ} {f:N->R ρ} {g:N->R α} (h:∀n,f n=Option.bind (g n) K):Bp T s t a f=Option.bind (Bp T s t a g) K:=by
 unfold Bp;split
 ·exact bx _ (h _)
 ·split
  ·exact h _
  ·rfl
 ·split
  ·exact h _
  ·split
   ·exact bx _ (h _)
   ·rfl
  ·split
   ·exact bx _ (h _)
   ·rfl
  ·split
   ·exact bx _ (h _)
   ·rfl
  ·exact h _
  ·rfl
 ·rfl
theorem q9 (t:TypeId) (a:TV) (lo hi:Option TV) (K:TV->R ρ):th T s t a lo hi K=B1 K (th T s t a lo hi gz):=by
 unfold th;split
 ·split
  ·exact jb _ _ _ λ_ _ _=>rfl
  ·rfl
 ·apply bx;split
  ·exact bx _ (jb _ _ _ λ_ _ _=>rfl)
  ·split
   ·exact bx _ (jb _ _ _ λ_ _ _=>rfl)
   ·rfl
  ·split
   ·exact bx _ (jb _ _ _ λ_ _ _=>rfl)
   ·rfl
  ·split
   ·exact bx _ (jb _ _ _ λ_ _ _=>rfl)
   ·rfl
  ·rfl
 ·split
  ·split
   ·exact bx _ rfl
   ·rfl
  ·rfl
 ·rfl
theorem JW (t:TypeId) (b:Bool) (a c:TV) (K:TV->TS->R ρ):xq T s t b a c K=B2 K (xq T s t b a c dA):=by
 unfold xq;split
 ·exact bx _ (qp _ _ λ_=>rfl)
 ·rfl
theorem g_ (mx:Bool) (a b:TV) (K:TV->R ρ):mC mx a b K=B1 K (mC mx a b gz):=by
 unfold mC;split
 ·rfl
 ·exact bx _ rfl
 ·rfl
theorem tg (c a b:TV) (K:TV->R ρ):zM c a b K=B1 K (zM c a b gz):=by
 unfold zM;split
 ·split
  ·rfl
  ·exact Q7 _ (gp _ rfl rfl) (gp _ rfl rfl)
 ·rfl
theorem Dt (t u:TypeId) (a b:TV) (K:TV->TS->R ρ):ov T s t u a b K=B2 K (ov T s t u a b dA):=by
 unfold ov;split
 ·apply bx;split
  ·split
   ·split
    ·split
     ·split
      ·exact qq _ rfl
      ·rfl
     ·rfl
    ·split
     ·split
      ·exact qq _ rfl
      ·rfl
     ·rfl
    ·split
     ·exact O3 _ (qq _ rfl)
     ·rfl
    ·rfl
    ·rfl
   ·rfl
  ·rfl
 ·rfl
theorem FD (t:TypeId) (a:TV) (K:TV->TS->R ρ):ta T s t a K=B2 K (ta T s t a dA):=by
 unfold ta;split
 ·apply bx;split
  ·split
   ·split
    ·rfl
    ·rfl
   ·rfl
  ·rfl
 ·rfl
theorem tc (t:TypeId) (a hi mx:TV) (K:TV->R ρ):zJ T t a hi mx K=B1 K (zJ T t a hi mx gz):=by
 unfold zJ;split
 ·apply bx;split
  ·apply bx;split
   ·exact j5 _ rfl
   ·rfl
  ·rfl
 ·rfl
theorem JT (t:TypeId) (a b:TV) (K:TV->TS->R ρ):zK T s t a b K=B2 K (zK T s t a b dA):=by
 unfold zK;split
 ·apply bx;split
  ·split
   ·split
    ·split<;>rfl
    ·rfl
   ·split
    ·split<;>rfl
    ·rfl
   ·split
    ·split
     ·apply bx;split
      ·split<;>rfl
      ·rfl
     ·rfl
    ·rfl
   ·rfl
  ·rfl
 ·rfl
theorem xv {α:Type} (t:TypeId) (a x:TV) {K:α->R ρ} {f:TS->R ρ} {g:TS->R α} (h:∀n,f n=Option.bind (g n) K):nM T s t a x f=Option.bind (nM T s t a x g) K:=by
 unfold nM;apply bx;split
 ·split
  ·split
   ·split
    ·apply bx;split
     ·split
      ·split
       ·exact h _
       ·rfl
      ·rfl
     ·rfl
     ·rfl
    ·rfl
   ·rfl
  ·split
   ·apply bx;apply gp
    ·split;split
     ·exact h _
     ·rfl
    ·split
     ·split
      ·exact h _
      ·rfl
     ·rfl
     ·rfl
   ·rfl
  ·exact bx _ (h _)
  ·rfl
 ·rfl
theorem Br (t:TypeId) (K:TV->TS->R ρ):nL T s t K=B2 K (nL T s t dA):=bx _ rfl
theorem nK (t:TypeId) (m k:TV) (K:TV->R ρ):kN T s t m k K=B1 K (kN T s t m k gz):=by
 unfold kN;apply bx;split
 ·split
  ·apply bx;split<;>rfl
  ·rfl
 ·rfl
theorem tS {α:Type} (t:TypeId) (m k:TV) {K:α->R ρ} {f:TS->R ρ} {g:TS->R α} (h:∀n,f n=Option.bind (g n) K):kO T s t m k f=Option.bind (kO T s t m k g) K:=by
 unfold kO;apply bx;split
 ·split
  ·split
   ·exact h _
   ·rfl
  ·rfl
 ·rfl
def lone (op:Op):Bool:=match op with
 | .call c=>(match c.callee with| .value _=>false|_=>true)
 |_=>true
theorem HT {op:Op} (hl:lone op=true) (call:eZ ρ) (call':eZ (TV×TS)) (K:TV->TS->R ρ):tf T call s op K=B2 K (tf T call' s op dA):=by
 have one:∀{x:R TV},Option.bind x (λv=>K v s)=B2 K (Option.bind x λv=>dA v s):=λ{x}=>by cases x<;>rfl
 have via:∀{f:(TV->R ρ)->R ρ} {x:R TV} {g:(TV->R (TV×TS))->R (TV×TS)},(∀K,f K=B1 K x)->(∀K,g K=B1 K x)->f (λv=>K v s)=B2 K (g λv=>dA v s):=λh1 h2=>by rw[h1,h2];exact one
 cases op<;>first|rfl|skip
 case move=>exact gp _ rfl rfl
 case assign=>exact gp _ rfl rfl
 case pick=>exact via (tg _ _ _) (tg _ _ _)
 case alloc=>unfold tf;exact xl _ _ _
 case box=>unfold tf;exact xl _ _ _
 case build=>exact FC _ _ _
 case buildSlice=>exact uu _ _ _ _
 case load=>exact via (ox _ _) (ox _ _)
 case store=>exact xv _ _ _ λ_=>rfl
 case nilCheck x=>
  unfold tf;dsimp only;split<;>first|rfl|exact bx _ rfl
 case binOp op t x y b=>
  exact gp _ (via (xu _ _ _) (xu _ _ _)) (gp _ (via (Bo _ _ _ _) (Bo _ _ _ _)) (via (xm _ _ _ _) (xm _ _ _ _)))
 case unOp=>exact via (Bt _ _) (Bt _ _)
 case convert=>exact JS _ _ _ _
 case makeFunc f a b=>cases f<;>first|rfl|(unfold tf;dsimp only;split<;>rfl)
 case makeSlice=>unfold tf;exact JW _ _ _ _ _
 case makeMap t r=>cases r with
  |none=>exact Br _ _
  |some r=>rfl
 case lookup t m k c=>cases c with
  |false=>exact via (nK _ _ _) (nK _ _ _)
  |true=>rfl
 case mapUpdate t m k v=>
  unfold tf;dsimp only;split<;>first|rfl|(rename_i e;cases e;exact tS _ _ _ λ_=>rfl)|(rename_i e;cases e)
 case slice t x lo hi mx=>
  cases mx with
  |none=>exact via (q9 _ _ _ _) (q9 _ _ _ _)
  |some mx=>cases lo with
   |some lo=>rfl
   |none=>cases hi with
    |none=>rfl
    |some hi=>exact via (tc _ _ _ _) (tc _ _ _ _)
 case field=>exact via (p_ _ _ _) (p_ _ _ _)
 case fieldAddr=>exact via (kg _ _ _) (kg _ _ _)
 case indexAddr=>exact via (kh _ _ _) (kh _ _ _)
 case index=>exact via (q8 _ _ _) (q8 _ _ _)
 case extract x i=>
  unfold tf;dsimp only;split
  ·split<;>rfl
  ·rfl
 case call c=>
  unfold tf;dsimp only;split
  ·split
   ·exact Dw _ _ λ_=>rfl
   ·exact Dt _ _ _ _ _
   ·exact JT _ _ _ _
   ·exact FD _ _ _
   ·exact via (g_ _ _ _) (g_ _ _ _)
   ·exact via (g_ _ _ _) (g_ _ _ _)
   ·rfl
  ·rename_i h;unfold lone at hl;dsimp only at hl;rw[h] at hl;cases hl
  ·rename_i h;unfold lone at hl;dsimp only at hl;rw[h] at hl;cases hl
  ·rfl
end nat
end
noncomputable section
theorem gU {t σ:Ty} {v:σ.T} (h:fit t (.v σ v)=true):σ=t:=by
 have h:decide (σ=t)=true:=by cases t<;>exact h
 exact aed h
theorem dk (t:Ty) (v:t.T):fit t (.v t v)=true:=by
 have:decide (t=t)=true:=adm rfl;cases t<;>exact this
theorem kW {a c:Ty} {x:TV} (h:fit (.pr a c) x=true):(∃v,x= .v (.pr a c) v)\/∃y z,x= .pr y z/\fit a y=true/\fit c z=true:=by
 cases x with
 |v σ v=>have e:=gU h;subst e;exact .inl ⟨v,rfl⟩
 |pr y z=>
  have h:(fit a y&&fit c z)=true:=h;rw[adr] at h;exact .inr ⟨y,z,rfl,h.1,h.2⟩
 |_=>cases h
theorem EK {n:Nat} {e:Ty} {x:TV} (h:fit (.ar n e) x=true):∃l,x= .v (.ar n e) l:=by
 cases x with
 |v σ v=>have e:=gU h;subst e;exact⟨v,rfl⟩
 |_=>cases h
theorem N8 {x:TV} (h:fit .gv x=true):(∃v,x= .v .gv v)\/fit lH x=true:=by
 cases x with
 |v σ v=>have e:=gU h;subst e;exact .inl ⟨v,rfl⟩
 |pr a b=>
  refine .inr ?_;unfold fit at h;split at h
  all_goals first|contradiction|skip
  rename_i heq;cases heq;simp only[adr] at h;show(fit _ _&&(fit _ _&&(fit _ _&&(fit _ _&&(fit _ _&&true)))))=true;simp only[adr];exact⟨h.1,h.2.1,h.2.2.1,h.2.2.2.1,h.2.2.2.2,trivial⟩
 |_=>cases h
theorem cV:∀(t:Ty) (x:TV),fit t x=true->x.cells=t.cells/\x.ag=t.ag
 | .pr a c,x,h=>by
   rcases kW h with⟨v,rfl⟩|⟨y,z,rfl,h1,h2⟩
   ·exact⟨rfl,rfl⟩
   ·exact⟨by show y.cells+z.cells=a.cells+c.cells;rw[(cV a y h1).1,(cV c z h2).1],rfl⟩
 | .ar n e,x,h=>by obtain⟨l,rfl⟩:=EK h;exact⟨rfl,rfl⟩
 | .gv,x,h=>by
   cases x with
   |v σ v=>have e:=gU h;subst e;exact⟨rfl,rfl⟩
   |pr a b=>
    rcases N8 h with⟨v,e⟩|h
    ·cases e
    ·obtain⟨y,z,e,h1,h2⟩:=(kW h).resolve_left (by rintro⟨v,e⟩;cases e);cases e;obtain⟨k1,k2⟩|⟨y2,z2,e,h3,h4⟩:=kW h2
     ·subst k2;have e1:a.cells=1:=by
       cases a with
       |v σ v=>have e:=gU h1;subst e;rfl
       |_=>cases h1
      refine⟨?_,rfl⟩;show a.cells+4=5;omega
     ·subst e;have one:∀{x:TV} {t:Ty},(t= .u 4\/t= .i 3\/t= .s\/t= .b\/t= .sl .gv)->fit t x=true->x.cells=1:=by
       intro x t ht h;rcases ht with rfl|rfl|rfl|rfl|rfl<;>cases x<;>first|(have e:=gU h;subst e;rfl)|rfl|cases h
      have a1:=one (.inl rfl) h1;have a2:=one (.inr (.inl rfl)) h3;obtain⟨k1,k2⟩|⟨y3,z3,e,h5,h6⟩:=kW h4
      ·subst k2;refine⟨?_,rfl⟩;show a.cells+(y2.cells+3)=5;omega
      ·subst e;have a3:=one (.inr (.inr (.inl rfl))) h5;obtain⟨k1,k2⟩|⟨y4,z4,e,h7,h8⟩:=kW h6
       ·subst k2;refine⟨?_,rfl⟩;show a.cells+(y2.cells+(y3.cells+2))=5;omega
       ·subst e;have a4:=one (.inr (.inr (.inr (.inr rfl)))) h7;obtain⟨k1,k2⟩|⟨y5,z5,e,h9,Rm⟩:=kW h8
        ·subst k2;refine⟨?_,rfl⟩;show a.cells+(y2.cells+(y3.cells+(y4.cells+1)))=5;omega
        ·subst e;have a5:=one (.inr (.inr (.inr (.inl rfl)))) h9;have a6:z5.cells=0:=by
          cases z5 with
          |v σ v=>have e:=gU Rm;subst e;rfl
          |un=>rfl
          |_=>cases Rm
         refine⟨?_,rfl⟩;show a.cells+(y2.cells+(y3.cells+(y4.cells+(y5.cells+z5.cells))))=5;omega
   |_=>cases h
 | .i _,x,h=>by cases x with
   |v σ v=>have e:=gU h;subst e;exact⟨rfl,rfl⟩
   |_=>cases h
 | .u _,x,h=>by cases x with
   |v σ v=>have e:=gU h;subst e;exact⟨rfl,rfl⟩
   |_=>cases h
 | .b,x,h=>by cases x with
   |v σ v=>have e:=gU h;subst e;exact⟨rfl,rfl⟩
   |_=>cases h
 | .s,x,h=>by cases x with
   |v σ v=>have e:=gU h;subst e;exact⟨rfl,rfl⟩
   |_=>cases h
 | .sl _,x,h=>by cases x with
   |v σ v=>have e:=gU h;subst e;exact⟨rfl,rfl⟩
   |nl=>exact⟨rfl,rfl⟩
   |r _=>exact⟨rfl,rfl⟩
   |rn _ _=>exact⟨rfl,rfl⟩
   |rs _ _ _=>exact⟨rfl,rfl⟩
   |_=>cases h
 | .un,x,h=>by cases x with
   |v σ v=>have e:=gU h;subst e;exact⟨rfl,rfl⟩
   |un=>exact⟨rfl,rfl⟩
   |_=>cases h
theorem qz {B:Bs}:∀(k:Nat) (t:Ty) (x:TV) {y:Ty} {p:Nat},fit t x=true->Ty.eU k t=some (y,p)->fit y (eU k x)=true/\p+y.cells<=t.cells/\∀c o,Rp B x c o->Rp B (eU k x) c (o+p)
 |0, .pr a d,x,y,p,h,e=>by
  have e:some (a,0)=some (y,p):=e;cases e;rcases kW h with⟨v,rfl⟩|⟨y,z,rfl,h1,h2⟩
  ·exact⟨dk _ _,by show 0+a.cells<=a.cells+d.cells;omega,λc o hr=>hr.1⟩
  ·exact⟨h1,by show 0+a.cells<=a.cells+d.cells;omega,λc o hr=>hr.1⟩
 |k+1, .pr a d,x,y,p,h,e=>by
  have e:(match Ty.eU k d with|some (t,o)=>some (t,a.cells+o)|none=>none)=some (y,p):=e;split at e
  ·rename_i t o hd;cases e;rcases kW h with⟨v,rfl⟩|⟨u,z,rfl,h1,h2⟩
   ·obtain⟨g1,g2,g3⟩:=qz (B:=B) k d (.v d (Fw (a:=a) (c:=d) v)) (dk _ _) hd;exact⟨g1,by show a.cells+o+y.cells<=a.cells+d.cells;omega,λc o' hr=>by have:=g3 c _ hr.2;rw[<-adV];exact this⟩
   ·obtain⟨g1,g2,g3⟩:=qz (B:=B) k d z h2 hd;refine⟨g1,by show a.cells+o+y.cells<=a.cells+d.cells;omega,λc o' hr=> ?_⟩;have:=g3 c _ hr.2;rw[(cV a u h1).1] at this;rw[<-adV];exact this
  ·cases e
 |0, .i _,_,_,_,_,e|0, .u _,_,_,_,_,e|0, .b,_,_,_,_,e|0, .s,_,_,_,_,e|0, .sl _,_,_,_,_,e|0, .un,_,_,_,_,e|0, .ar _ _,_,_,_,_,e|0, .gv,_,_,_,_,e=>by cases e
 |_+1, .i _,_,_,_,_,e|_+1, .u _,_,_,_,_,e|_+1, .b,_,_,_,_,e|_+1, .s,_,_,_,_,e|_+1, .sl _,_,_,_,_,e|_+1, .un,_,_,_,_,e|_+1, .ar _ _,_,_,_,_,e|_+1, .gv,_,_,_,_,e=>by cases e
theorem vS {B:Bs} {k:Nat} {t:Ty} {x:TV} {y:Ty} {p:Nat} (h:fit t x=true) (e:t.o_ k=some (y,p)):fit y (fx k x)=true/\p+y.cells<=t.cells/\∀c o,Rp B x c o->Rp B (fx k x) c (o+p):=by
 by_cases hg:t= .gv
 ·subst hg;have e:Ty.eU k lH=some (y,p):=e;rcases N8 h with⟨v,rfl⟩|h'
  ·obtain⟨g1,g2,g3⟩:=qz (B:=B) k lH (.v lH (vZ v)) (dk _ _) e;exact⟨g1,g2,λc o hr=>g3 c o ((uT _ _ v c o).1 hr)⟩
  ·have e2:fx k x=eU k x:=by
    cases x with
    |v σ v=>have e:=gU h;have e':=gU h';rw[e] at e';cases e'
    |_=>rfl
   rw[e2];exact qz k lH x h' e
 ·have e:Ty.eU k t=some (y,p):=by
   cases t<;>first|exact e|exact absurd rfl hg
  have e2:fx k x=eU k x:=by
   cases x with
   |v σ v=>
    have e:=gU h;subst e;cases σ<;>first|rfl|exact absurd rfl hg
   |_=>rfl
  rw[e2];exact qz k t x h e
theorem mu {e:Ty} {l:(Ty.sl e).T} {n:Nat} (h:n<List.length l):(l:List e.T)[n]? =some (a8 (e:=e) l n):=by
 show(l:List e.T)[n]? =some (List.getD l n e.zero);rw[adG,ae2 h];rfl
theorem q_ {B:Bs}:∀(w:List vi) (t:Ty) (x:TV) {q:Nat},fit t x=true->t.off w=some q->∃u,t.iH w=some u/\fit u (ij w x)=true/\q+u.cells<=t.cells/\∀c o,Rp B x c o->Rp B (ij w x) c (o+q)
 |[],t,x,q,h,e=>by
  have e:some 0=some q:=e;cases e;exact⟨t,rfl,h,ade,λc o hr=>hr⟩
 | .o_ k::w,t,x,q,h,e=>by
   have e:(match t.o_ k with|some (y,o)=>(match Ty.off w y with|some q=>some (o+q)|none=>none)|none=>none)=some q:=e;split at e
   ·rename_i y o hy;split at e
    ·rename_i q' hq;cases e;obtain⟨g1,g2,g3⟩:=vS (B:=B) h hy;obtain⟨u,k1,k2,k3,k4⟩:=q_ (B:=B) w y (fx k x) g1 hq;refine⟨u,?_,k2,ade,λc o' hr=> ?_⟩
     ·show(match t.o_ k with|some (x,_)=>Ty.iH w x|none=>none)=some u;rw[hy];exact k1
     ·have:=k4 c _ (g3 c o' hr);rw[<-adV];exact this
    ·cases e
   ·cases e
 | .rU n::w,t,x,q,h,e=>by
   cases t with
   |ar m d=>
    have e:(if n<m then(match Ty.off w d with|some q=>some (n*d.cells+q)|none=>none) else none)=some q:=e;split at e
    ·rename_i hn;split at e
     ·rename_i q' hq;cases e;obtain⟨l,rfl⟩:=EK h;obtain⟨u,k1,k2,k3,k4⟩:=q_ (B:=B) w d (.v d (a8 (e:=d) l n)) (dk _ _) hq;refine⟨u,k1,k2,?_,λc o' hr=> ?_⟩
      ·show n*d.cells+q'+u.cells<=m*d.cells;have:(n+1)*d.cells<=m*d.cells:=ae4 _ hn;rw[aei,aeo] at this;have k5:q'+u.cells<=d.cells:=k3;exact aem (by rw[adV];exact Nat.add_le_add_left k5 _) this
      ·obtain⟨h1,h2⟩:=hr;have hl:n<List.length l:=by rw[h1];exact hn
       have h3:bI B.F B.w d (a8 (e:=d) l n) c (o'+n*d.cells):=bQ.nth (P:=bI B.F B.w d) h2 (mu hl);have:=k4 c _ h3;rw[<-adV];exact this
     ·cases e
    ·cases e
   |_=>cases e
theorem Ic {a:Value} (h:Zs a):a.oneCell'=true:=by obtain⟨_,_,rfl,_⟩:=h;rfl
theorem lQ {p:Option (Nat×Nat)} {z o n:Nat} {a:Value} (h:fH p z o n a):a.oneCell'=true:=by
 cases p with
 |none=>exact Ic h.2.2.zs
 |some x=>
  obtain⟨b,s⟩:=x;rcases h.2 with⟨c,rfl,_⟩|⟨_,a',rfl⟩<;>rfl
theorem uW {F:Nat->Prop} {w:World} {z n:Nat} {P:(Nat->Value)->Nat->Prop} {a:Value} (h:vj F w z n P a):a.oneCell'=true:=by
 obtain⟨_,_,⟨_,h⟩|⟨_,_,_,_,_,_,rfl,_⟩⟩:=h
 ·exact Ic h
 ·rfl
theorem lS {α:Type} {P:α->(Nat->Value)->Nat->Prop} {z:Nat} (hP:∀x c o,P x c o->∀i,i<z->(c (o+i)).oneCell'=true):∀(l:List α) (c:Nat->Value) (o:Nat),bQ P z l c o->∀i,i<l.length*z->(c (o+i)).oneCell'=true
 |[],_,_,_,i,hi=>by rw[adR,aen] at hi;exact absurd hi (adS _)
 |x::r,c,o,⟨h1,h2⟩,i,hi=>by
  rw[adB,aei,aeo] at hi
  by_cases e:i<z
  ·exact hP x c o h1 i e
  ·have:=lS hP r c _ h2 (i-z) ade
   rwa [show o+z+(i-z)=o+i by omega] at this
theorem JM {F:Nat->Prop} {w:World} (x:GV) (c:Nat->Value) (o:Nat) (h:oF F w x c o) (i:Nat) (hi:i<5):(c (o+i)).oneCell'=true:=by
 obtain⟨k,n,t,l,b⟩:=x;obtain⟨⟨h1,_⟩,⟨h3,_⟩,⟨s,h5,_⟩,h7,h8⟩:=h
 match i,hi with
 |0,_=>have h1:c (o+0)=_:=h1;rw[h1];rfl
 |1,_=>rw[h3];rfl
 |2,_=>rw[h5];rfl
 |3,_=>exact uW h7
 |4,_=>rw[h8];rfl
theorem fh {F:Nat->Prop} {w:World}:∀(t:Ty) (x:t.T) (c:Nat->Value) (o:Nat),bI F w t x c o->∀i,i<t.cells->(c (o+i)).oneCell'=true
 | .i k,x,c,o,h,i,hi=>by obtain rfl:i=0:=Nat.lt_one_iff.1 hi
                         rw[ae9,h.1];rfl
 | .u k,x,c,o,h,i,hi=>by obtain rfl:i=0:=Nat.lt_one_iff.1 hi
                         rw[ae9,h.1];rfl
 | .b,x,c,o,h,i,hi=>by obtain rfl:i=0:=Nat.lt_one_iff.1 hi
                       have h:c o=_:=h;rw[ae9,h];rfl
 | .s,x,c,o,⟨s,h,_⟩,i,hi=>by obtain rfl:i=0:=Nat.lt_one_iff.1 hi
                             rw[ae9,h];rfl
 | .sl e,x,c,o,h,i,hi=>by obtain rfl:i=0:=Nat.lt_one_iff.1 hi
                          exact uW h
 | .pr a b,x,c,o,⟨h1,h2⟩,i,hi=>by
   have hi:i<a.cells+b.cells:=hi
   by_cases e:i<a.cells
   ·exact fh a _ c o h1 i e
   ·have:=fh b _ c _ h2 (i-a.cells) ade
    rwa [show o+a.cells+(i-a.cells)=o+i by omega] at this
 | .un,_,_,_,_,i,hi=>absurd hi (adS _)
 | .ar n e,l,c,o,⟨h1,h2⟩,i,hi=>lS (fh e) l c o h2 i (by rw[h1];exact hi)
 | .gv,x,c,o,h,i,hi=>JM x c o h i hi
theorem JL {F:Nat->Prop} {w:World} {t:Ty} {x:t.T} {c:Nat->Value} {o:Nat} (ht:t.ag=false) (h:bI F w t x c o):(c o).oneCell'=true:=by
 refine fh t x c o h 0 ?_;cases t<;>first|exact aek|cases ht
theorem Fq {tb:TB} {Q:(e:Ty)->(Ty.sl e).T->Prop} (h:match tb with| .row e l=>Q e l|_=>False):∃e l,tb= .row e l/\Q e l:=by
 cases tb with
 |row e l=>exact⟨e,l,rfl,h⟩
 |_=>exact h.elim
theorem Si {B:Bs} {x:TV} {c:Nat->Value} {o:Nat} (hv:k_ x=true) (hu:x≠ .bU) (hx:x.ag=false) (h:Rp B x c o):(c o).oneCell'=true:=by
 cases x with
 |bU=>exact absurd rfl hu
 |nI=>cases hv
 |nl=>rw[show c o= .slice none 0 0 from h];rfl
 |v t x=>exact JL hx h
 |r j=>obtain⟨e,l,_,h⟩:=Fq h.2;exact lQ h
 |rn j n=>obtain⟨e,l,_,h⟩:=Fq (Q:=λe l=>n<=List.length l/\fH (B.b j) e.cells 0 n (c o)) h.2;exact lQ h.2
 |rs j m n=>obtain⟨e,l,_,h⟩:=Fq (Q:=λe l=>m+n<=List.length l/\fH (B.b j) e.cells m n (c o)) h.2;exact lQ h.2
 |p j w=>obtain⟨_,_,_,_,_,_,e⟩:=h;rw[e];rfl
 |q t x=>obtain⟨_,_,_,_,_,e,_⟩:=h;rw[e];rfl
 |un=>cases hx
 |pr a b=>cases hx
 |tp x=>cases hv
 |f g x n m=>obtain⟨_,_,e,_⟩:=h;rw[e];rfl
 |cl e l=>exact uW h.2
 |nz n=>obtain⟨_,e,_⟩:=h;rw[e];rfl
 |sa j w n=>obtain⟨_,_,_,_,_,_,e⟩:=h;rw[e];rfl
 |m j=>obtain⟨_,_,_,_,_,e⟩:=h;rw[e];rfl
theorem RO {x:TV} (h:k_ x=true):x≠ .bU:=λe=>by rw[e] at h;cases h
def rZ (H:List TE) (B:Bs) (a:TV):Prop:=∀j,BI a=some j->(B.e j).st<=2/\(B.e j).b=(nth .bu H j).b
def ll (H:List TE) (B:Bs):Prop:=∀j,(nth .bu H j).st≠7->(B.e j).st≠7->(nth .bu H j).b.hZ (B.e j).b
theorem ll.refl (B:Bs):ll B.H B:=λ_ _ _=>cu _
theorem rZ.refl {B:Bs} {a:TV} (h:∀j,BI a=some j->(nth .bu B.H j).st<=2):rZ B.H B a:=λj hj=>⟨h j hj,rfl⟩
theorem YC {B:Bs} {j:Nat} {w:List vi} {a:Value} (h:Rv B (.p j w) a):(B.e j).st≠7/\∃b s q,B.b j=some (b,s)/\(B.e j).b.off w=some q/\a= .pointer (some ⟨b,q,none⟩):=(d7 rfl rfl h).2
theorem mkP {B:Bs} {j b s q:Nat} {w:List vi} (hs:(B.e j).st≠7) (h1:B.b j=some (b,s)) (h2:(B.e j).b.off w=some q):Rv B (.p j w) (.pointer (some ⟨b,q,none⟩)):=dG rfl rfl rfl rfl ⟨hs,b,s,q,h1,h2,rfl⟩
theorem a9p {B:Bs} {j n:Nat} {w:List vi} {a:Value} (h:Rv B (.sa j w n) a):(B.e j).st≠7/\∃b s q,B.b j=some (b,s)/\(B.e j).b.off w=some q/\a= .slice (some ⟨b,q,none⟩) n n:=(d7 rfl rfl h).2
theorem a8o {B:Bs} {j b s q n:Nat} {w:List vi} (hs:(B.e j).st≠7) (h1:B.b j=some (b,s)) (h2:(B.e j).b.off w=some q):Rv B (.sa j w n) (.slice (some ⟨b,q,none⟩) n n):=dG rfl rfl rfl rfl ⟨hs,b,s,q,h1,h2,rfl⟩
theorem rvQ {B:Bs} {t:Ty} {x:t.T} {a:Value} (h:Rv B (.q t x) a):JH B.F B.w t x a:=(d7 rfl rfl h).2
theorem mkQ {B:Bs} {t:Ty} {x:t.T} {a:Value} (h:JH B.F B.w t x a):Rv B (.q t x) a:=dG rfl rfl rfl (by obtain⟨_,_,_,_,_,e,_⟩:=h;rw[e];rfl) h
structure Range (B:Bs) (b q:Nat) (x:TV) (cs:Array Value):Prop where
 le:q+x.cells<=cs.size
 rp:Rp B x (fw cs) q
 one:∀i,i<x.cells->(fw cs (q+i)).oneCell'=true
theorem UP {X:Fx} {B:Bs} (I:bw X B) {j b s q:Nat} {w:List vi} (hs:(B.e j).st<=2) (hb:B.b j=some (b,s)) (hw:(B.e j).b.off w=some q):
 ∃cs T fz,s=cs.size/\B.w.heap[b]? =some (.cells cs T fz)/\Range B b q (Ky w (B.e j).b) cs/\((B.e j).st≠0->UH cs fz):=by
 have H:=I.bP j;rw[hb] at H;revert H hs hw;generalize B.e j=E;intro hs hw H;obtain⟨st,tb⟩:=E;cases tb with
 |row e l=>
  obtain⟨_,_,h|⟨b',cs,T,fz,g1,g2,g3,g4,g5⟩⟩:=H hs
  ·cases h.1
  ·cases g1;refine⟨cs,T,fz,rfl,g2,?_,g3⟩;cases w with
   |nil=>cases hw
   |cons a w=>
    cases a with
    |o_ k=>cases hw
    |rU n=>
     have hw:(if n<List.length l then(match e.off w with|some q=>some (n*e.cells+q)|none=>none) else none)=some q:=hw;split at hw
     ·rename_i hn;split at hw
      ·rename_i q' hq;cases hw;obtain⟨u,k1,k2,k3,k4⟩:=q_ (B:=B) w e (.v e (a8 (e:=e) l n)) (dk _ _) hq;have h3:bI B.F B.w e (a8 (e:=e) l n) (fw cs) (0+n*e.cells):=bQ.nth (P:=bI B.F B.w e) g5 (mu hn);rw[adI] at h3;have hc:(ij w (.v e (a8 (e:=e) l n))).cells=u.cells:=(cV _ _ k2).1;refine⟨?_,k4 _ _ h3,λi hi=> ?_⟩
       ·show n*e.cells+q'+(ij w (.v e (a8 (e:=e) l n))).cells<=cs.size;rw[hc];have k5:(n+1)*e.cells<=List.length l*e.cells:=ae4 _ hn;rw[aei,aeo] at k5;exact aem (by rw[adV];exact Nat.add_le_add_left k3 _) (aem k5 g4)
       ·have hi:i<(ij w (.v e (a8 (e:=e) l n))).cells:=hi;rw[hc] at hi;rw[adV];exact fh e _ _ _ h3 (q'+i) ade
      ·cases hw
     ·cases hw
 |box t c=>
  have hw:(if t=cO then none else t.off w)=some q:=hw;split at hw
  ·cases hw
  rename_i hm;obtain⟨hf,⟨_,b',cs,T,fz,g1,g2,g3,g4,g0,g5⟩|⟨hm',_⟩⟩:=H hs;rotate_left
  ·exact absurd hm' hm
  cases g1;refine⟨cs,T,fz,rfl,g2,?_,g3⟩;obtain⟨u,k1,k2,k3,k4⟩:=q_ (B:=B) w t c hf hw;have k5:=k4 _ _ g5;rw[adI] at k5;have hc:(ij w c).cells=u.cells:=(cV _ _ k2).1;refine⟨by show q+(ij w c).cells<=_;omega,k5,λi hi=> ?_⟩;have hi:i<(ij w c).cells:=hi;have iJ:q+i<cs.size:=ade;exact g0 _ (Array.mem_of_getElem? (j4 iJ))
 |any c=>
  obtain⟨hc,b',cs,T,fz,g1,g2,g3,g4,g0,g5⟩:=H hs;cases g1;cases w with
  |nil=>
   cases hw;refine⟨cs,T,fz,rfl,g2,?_,g3⟩;have hc:c.cells=1:=hc;refine⟨by show 0+c.cells<=_;omega,g5,λi hi=> ?_⟩;have hi:i<c.cells:=hi;have iJ:0+i<cs.size:=ade;exact g0 _ (Array.mem_of_getElem? (j4 iJ))
  |cons a w=>cases hw
theorem qu {w:World} {b o:Nat} {c:Array Value} {T:TypeId} {fz:Nat×Nat} (h:w.heap[b]? =some (.cells c T fz)):w.cell? ⟨b,o,none⟩=c[o]? :=by simp only[World.cell?,h];rfl
theorem ri {P:Program} (w:World) (a:Addr):(Instr.sureAddr (.pointer (some a))).run P w= .ok a w:=rfl
theorem CJ {P:Program} {ty:TypeId} (hk:known P ty=true) {w:World} {b o:Nat} {cs:Array Value} {T:TypeId} {fz:Nat×Nat} (h:w.heap[b]? =some (.cells cs T fz)) (ho:o+cg P ty<=cs.size) (h1:isAgg P ty=false->cg P ty=1):
 (loadVar ty ⟨b,o,none⟩).run P w= .ok (if isAgg P ty=true then .agg (cs.extract o (o+cg P ty)) else fw cs o) w:=by
 obtain⟨d,hd⟩:=ob hk;cases sB:isAgg P ty with
 |true=>
  obtain⟨d',hd',a0q,i,hi⟩:=wk sB;rw[adp rfl];have hl:(cs.extract o (o+cg P ty)).toList.length=cg P ty:=by rw[Array.length_toList,Array.size_extract];omega
  have:=run_loadVar_mid (P:=P) w b o ty (cs.extract o (o+cg P ty)).toList d' (λj v hj=> ?_) (bp hd').1 a0q ?_
  ·rwa [Array.toArray_toList] at this
  ·rw[qu h];rw[adU,Array.getElem?_extract] at hj;split at hj
   ·exact hj
   ·cases hj
  ·rw[dm hi,hl,g9 hi];rfl
 |false=>
  have:=h1 sB;rw[adq (by decide)];unfold loadVar;rw[Sem.run_bind,lI hd,sB];have hc:w.cell? ⟨b,o,none⟩=some (fw cs o):=by rw[qu h,j4 ade]
  simp[hc]
theorem EX {T:CT} {h:List TE} {t:TypeId} {x:TV} (h:wy T h t x=true):k_ x=true/\known T.P t=true/\x.cells=cg T.P t/\1<=x.cells/\x.ag=isAgg T.P t:=by
 unfold wy at h;simp only[adr,adn] at h;exact⟨h.1.1,h.2.1,adu h.2.2.1,adv h.2.2.2.1,by
  have:=h.2.2.2.2;revert this;cases x.ag<;>cases isAgg T.P t<;>simp⟩
theorem qt {cs:Array Value} {o n j:Nat} (h:o+n<=cs.size) (hj:j<n):fw (cs.extract o (o+n)) j=fw cs (o+j):=by
 unfold fw;rw[adD,adD,Array.getElem?_extract,adh]
theorem A' {P:Program} {B:Bs} {x:TV} {b o:Nat} {cs:Array Value} {t:TypeId} (hv:k_ x=true) (R:Range B b o x cs) (hs:x.cells=cg P t) (hp:1<=x.cells) (hg:x.ag=isAgg P t) (h1:x.ag=false->x.cells=1):
 Rv B x (if isAgg P t=true then .agg (cs.extract o (o+cg P t)) else fw cs o):=by
 have _:=hp;obtain⟨r1,r2,r3⟩:=R;rw[gI hv];cases sB:isAgg P t with
 |true=>
  rw[adp rfl];rw[sB] at hg;refine⟨?_,Rp.dP x (λj hj=> ?_) r2⟩
  ·rw[hg];refine⟨_,rfl,by rw[Array.size_extract];omega,λu hu=> ?_⟩;obtain⟨i,hi,rfl⟩:=Array.mem_iff_getElem.1 hu;rw[Array.size_extract] at hi;have:=r3 i ade;rw[<-qt (n:=cg P t) ade ade] at this
   rwa [fw,adD,adX (by rw[Array.size_extract];omega)] at this
  ·rw[adI];exact qt ade ade
 |false=>
  rw[adq (by decide)];rw[sB] at hg;have hc:=h1 hg;have h0:=Si hv (RO hv) hg r2;refine⟨by rw[hg];exact⟨h0,hc⟩,Rp.dP x (λj hj=> ?_) r2⟩;obtain rfl:j=0:=ade;rw[pv h0];rfl
theorem vm {x:TV} (hv:k_ x=true) (h:x.ag=false):x.cells=1:=by
 cases x<;>first|rfl|cases h|cases hv|skip
 rename_i t x;cases t<;>first|rfl|cases h
theorem vx {t:Ty} {x:t.T}:dy t t x=some x:=by unfold dy;rw[dif_pos rfl]
theorem Dx {T:CT} {s:TS} {X:Fx} {B:Bs} {t:TypeId} {a tv:TV} {u:Value} (h:nJ T s t a gz=some tv) (I:bw X B) (hS:rZ s.hp B a) (ha:Rv B a u):∃r,(Instr.loadAt t u).run T.P B.w= .ok r B.w/\Rv B tv r:=by
 have go:∀{b o:Nat} {cs:Array Value} {T':TypeId} {fz:Nat×Nat} {x:TV} {h:List TE},wy T h t x=true->B.w.heap[b]? =some (.cells cs T' fz)->Range B b o x cs->
  ∃r,(Instr.loadAt t (.pointer (some ⟨b,o,none⟩))).run T.P B.w= .ok r B.w/\Rv B x r:=λ{b o cs T' fz x _} hl hb R=>by
  obtain⟨h1,h2,h3,h4,h5⟩:=EX hl;have h6:=vm h1;refine⟨_,?_,A' h1 R h3 h4 h5 h6⟩;rw[Instr.loadAt,Sem.run_bind,ri];exact CJ h2 hb (by rw[<-h3];exact R.le) λe=>by rw[<-h3];exact h6 (h5.trans e)
 unfold nJ at h;split at h
 ·rename_i τ x;obtain⟨hl,h⟩:=aQ h;cases h;obtain⟨b,o,cs,T',fz,rfl,_,h2,h3,h4⟩:=rvQ ha;exact go hl h2 ⟨h3,h4,fh _ _ _ _ h4⟩
 ·rename_i j w;generalize hE:s.bP j=E at h;obtain⟨st,tb⟩:=E;obtain⟨kY,h⟩:=aQ h;obtain⟨hl,h⟩:=aQ h;cases h;obtain⟨s1,s2⟩:=hS j rfl;obtain⟨_,b,sz,q,h1,h2,rfl⟩:=YC ha;obtain⟨cs,T',fz,_,g2,g3,_⟩:=UP I s1 h1 h2;have hE:nth .bu s.hp j=_:=hE;rw[s2,hE] at g3;exact go hl g2 g3
 ·cases h
end
noncomputable section
theorem uR {a:vi}:∀{w:List vi} {t u:Ty} {q:Nat},t.iH w=some u->t.off w=some q->t.off (w++[a])=(match Ty.off [a] u with|some r=>some (q+r)|none=>none)
 |[],t,u,q,h1,h2=>by
  have h1:some t=some u:=h1;have h2:some 0=some q:=h2;cases h1;cases h2;show Ty.off [a] t=_;cases Ty.off [a] t with
  |none=>rfl
  |some r=>show some r=some (0+r);rw[adI]
 | .o_ k::w,t,u,q,h1,h2=>by
   have h1:(match t.o_ k with|some (x,_)=>Ty.iH w x|none=>none)=some u:=h1;have h2:(match t.o_ k with|some (y,o)=>(match Ty.off w y with|some q=>some (o+q)|none=>none)|none=>none)=some q:=h2;show(match t.o_ k with|some (y,o)=>(match Ty.off (w++[a]) y with|some q=>some (o+q)|none=>none)|none=>none)=_;cases hk:t.o_ k with
   |none=>rw[hk] at h1;cases h1
   |some yo=>
    obtain⟨y,o⟩:=yo;rw[hk] at h1 h2;have h1:Ty.iH w y=some u:=h1;have h2:(match Ty.off w y with|some q=>some (o+q)|none=>none)=some q:=h2;cases hq:Ty.off w y with
    |none=>rw[hq] at h2;cases h2
    |some q'=>
     rw[hq] at h2;cases h2;show(match Ty.off (w++[a]) y with|some q=>some (o+q)|none=>none)=_;rw[uR h1 hq];cases Ty.off [a] u with
     |none=>rfl
     |some r=>show some (o+(q'+r))=some (o+q'+r);rw[adV]
 | .rU n::w,t,u,q,h1,h2=>by
   cases t with
   |ar m e=>
    have h1:Ty.iH w e=some u:=h1;have h2:(if n<m then(match Ty.off w e with|some q=>some (n*e.cells+q)|none=>none) else none)=some q:=h2;show(if n<m then(match Ty.off (w++[a]) e with|some q=>some (n*e.cells+q)|none=>none) else none)=_;split at h2
    ·rename_i hn;rw[adp hn];cases hq:Ty.off w e with
     |none=>rw[hq] at h2;cases h2
     |some q'=>
      rw[hq] at h2;cases h2;rw[uR h1 hq];cases Ty.off [a] u with
      |none=>rfl
      |some r=>show some (n*e.cells+(q'+r))=some (n*e.cells+q'+r);rw[adV]
    ·cases h2
   |_=>cases h1
theorem xx {a:vi} {tb:TB} {w:List vi} {u:Ty} {q:Nat} (h1:tb.iH w=some u) (h2:tb.off w=some q):tb.off (w++[a])=(match Ty.off [a] u with|some r=>some (q+r)|none=>none):=by
 cases tb with
 |row e l=>
  cases w with
  |nil=>cases h1
  |cons b w=>
   cases b with
   |o_ k=>cases h1
   |rU n=>
    have h1:Ty.iH w e=some u:=h1;have h2:(if n<List.length l then(match e.off w with|some q=>some (n*e.cells+q)|none=>none) else none)=some q:=h2;show(if n<List.length l then(match e.off (w++[a]) with|some q=>some (n*e.cells+q)|none=>none) else none)=_;split at h2
    ·rename_i hn;rw[adp hn];cases hq:Ty.off w e with
     |none=>rw[hq] at h2;cases h2
     |some q'=>
      rw[hq] at h2;cases h2;rw[uR h1 hq];cases Ty.off [a] u with
      |none=>rfl
      |some r=>show some (n*e.cells+(q'+r))=some (n*e.cells+q'+r);rw[adV]
    ·cases h2
 |box t c=>
  have h2:(if t=cO then none else t.off w)=some q:=h2;show(if t=cO then none else t.off (w++[a]))=_;split at h2
  ·cases h2
  ·rename_i hm;rw[adq hm];exact uR (show t.iH w=some u from h1) h2
 |any c=>cases h1
theorem yU {x y:TB} (h:x.hZ y) (w:List vi):y.iH w=x.iH w:=by
 cases x<;>cases y<;>first|exact h.elim|skip
 ·obtain⟨h1,h2⟩:=h;subst h1;rfl
 ·have h1:_=_:=h;subst h1;rfl
 ·rfl
theorem xM {n:Nat} (h:n<=2):n≠7:=ade
theorem NM {H:List TE} {B:Bs} {j st:Nat} {e:Ty} {l:(Ty.sl e).T} (L:ll H B) (hE:nth .bu H j=⟨st, .row e l⟩) (hs:st<=2) (hB:(B.e j).st≠7):∃l',(B.e j).b= .row e l'/\List.length l'=List.length l:=by
 have h:=L j (by rw[hE];exact xM hs) hB;rw[hE] at h;revert h;cases(B.e j).b with
 |row e' l'=>
  rintro⟨h1,h2⟩;subst h1;exact⟨l',rfl,h2.symm⟩
 |_=>exactλh=>h.elim
theorem rvR {B:Bs} {j:Nat} {a:Value} (h:Rv B (.r j) a):(B.e j).st≠7/\match(B.e j).b with| .row e l=>fH (B.b j) e.cells 0 (List.length l) a|_=>False:=(d7 rfl rfl h).2
theorem a37 {B:Bs} {j n:Nat} {a:Value} (h:Rv B (.rn j n) a):(B.e j).st≠7/\match(B.e j).b with| .row e l=>n<=List.length l/\fH (B.b j) e.cells 0 n a|_=>False:=(d7 rfl rfl h).2
theorem XK {B:Bs} {j m n:Nat} {a:Value} (h:Rv B (.rs j m n) a):(B.e j).st≠7/\match(B.e j).b with| .row e l=>m+n<=List.length l/\fH (B.b j) e.cells m n a|_=>False:=(d7 rfl rfl h).2
theorem rvL {B:Bs} {e:Ty} {l:(Ty.sl e).T} {a:Value} (h:Rv B (.v (.sl e) l) a):vj B.F B.w e.cells (List.length l) (bQ (bI B.F B.w e) e.cells l) a:=(d7 rfl rfl h).2
def uX:TV->Option (Nat×Nat×Option Nat)
 | .r j=>some (j,0,none)
 | .rn j n=>some (j,0,some n)
 | .rs j o n=>some (j,o,some n)
 |_=>none
theorem B5 {H:List TE} {B:Bs} {a:TV} {j o st:Nat} {n:Option Nat} {e:Ty} {l:(Ty.sl e).T} {u:Value} (L:ll H B) (hE:nth .bu H j=⟨st, .row e l⟩) (hs:st<=2) (hx:uX a=some (j,o,n)) (ha:Rv B a u):
 (B.e j).st≠7/\∃l',(B.e j).b= .row e l'/\List.length l'=List.length l/\o+n.getD (List.length l)<=List.length l/\fH (B.b j) e.cells o (n.getD (List.length l)) u:=by
 have go:(B.e j).st≠7->(∀l',(B.e j).b= .row e l'->List.length l'=List.length l->o+n.getD (List.length l)<=List.length l/\fH (B.b j) e.cells o (n.getD (List.length l)) u)->(B.e j).st≠7/\∃l',(B.e j).b= .row e l'/\List.length l'=List.length l/\o+n.getD (List.length l)<=List.length l/\fH (B.b j) e.cells o (n.getD (List.length l)) u:=λh0 h=>by
  obtain⟨l',h1,h2⟩:=NM L hE hs h0;exact⟨h0,l',h1,h2,h l' h1 h2⟩
 cases a<;>first|cases hx|skip
 ·obtain⟨h0,h⟩:=rvR ha;refine go h0 λl' h1 h2=> ?_
  rw[h1] at h;have h:fH (B.b j) e.cells 0 (List.length l') u:=h;rw[h2] at h;exact⟨by show 0+List.length l<=_;omega,h⟩
 ·obtain⟨h0,h⟩:=a37 ha;refine go h0 λl' h1 h2=> ?_
  rw[h1] at h;exact⟨by rw[<-h2,adI];exact h.1,h.2⟩
 ·obtain⟨h0,h⟩:=XK ha;refine go h0 λl' h1 h2=> ?_
  rw[h1] at h;exact⟨by rw[<-h2];exact h.1,h.2⟩
theorem a8m {B:Bs} {j n:Nat} {e:Ty} {l:(Ty.sl e).T} {u:Value} (h0:(B.e j).st≠7) (h1:(B.e j).b= .row e l) (h2:n<=List.length l) (h:fH (B.b j) e.cells 0 n u):Rv B (.rn j n) u:=
 dG rfl rfl rfl (lQ h) ⟨h0,by rw[h1];exact⟨h2,h⟩⟩
theorem a8n {B:Bs} {j m n:Nat} {e:Ty} {l:(Ty.sl e).T} {u:Value} (h0:(B.e j).st≠7) (h1:(B.e j).b= .row e l) (h2:m+n<=List.length l) (h:fH (B.b j) e.cells m n u):Rv B (.rs j m n) u:=
 dG rfl rfl rfl (lQ h) ⟨h0,by rw[h1];exact⟨h2,h⟩⟩
theorem mkR {B:Bs} {j:Nat} {e:Ty} {l:(Ty.sl e).T} {u:Value} (h0:(B.e j).st≠7) (h1:(B.e j).b= .row e l) (h:fH (B.b j) e.cells 0 (List.length l) u):Rv B (.r j) u:=
 dG rfl rfl rfl (lQ h) ⟨h0,by rw[h1];exact h⟩
theorem toNat_lt {x:Int} {n:Nat} (h1:0<=x) (h2:x<n):x.toNat<n:=ade
theorem toNat_le {x:Int} {n:Nat} (h1:0<=x) (h2:x<=n):x.toNat<=n:=ade
theorem nW {n m:Nat} {i:TV} {B:Bs} {v:Value} (h:BW n i some=some m) (hi:Rv B i v):m<n/\∃k,v= .int k (m:Int):=by
 unfold BW at h;split at h
 ·rename_i x;have h:(if 0<=x/\x<(n:Int) then some (Int.toNat x) else none)=some m:=(A0 n x some).symm.trans h;obtain⟨e,_,_⟩:=Kd hi;split at h
  ·rename_i hx;cases h;exact⟨toNat_lt hx.1 hx.2,kd 3,by rw[e,Int.toNat_of_nonneg hx.1]⟩
  ·cases h
 ·rename_i k x;obtain⟨e,_⟩:=Sl hi;have h:(if x<n then some x else none)=some m:=(A1 n x some).symm.trans h;split at h
  ·rename_i hx;cases h;exact⟨hx,kd k,e⟩
  ·cases h
 ·cases h
theorem uB {n m:Nat} {i:TV} {B:Bs} {v:Value} (h:K1 n i some=some m) (hi:Rv B i v):m<=n/\∃k,v= .int k (m:Int):=by
 unfold K1 at h;split at h
 ·rename_i x;have h:(if 0<=x/\x<=(n:Int) then some (Int.toNat x) else none)=some m:=(d4 n x some).symm.trans h;obtain⟨e,_,_⟩:=Kd hi;split at h
  ·rename_i hx;cases h;exact⟨toNat_le hx.1 hx.2,kd 3,by rw[e,Int.toNat_of_nonneg hx.1]⟩
  ·cases h
 ·rename_i k x;obtain⟨e,_⟩:=Sl hi;have h:(if x<=n then some x else none)=some m:=(UR n x some).symm.trans h;split at h
  ·rename_i hx;cases h;exact⟨hx,kd k,e⟩
  ·cases h
 ·cases h
theorem nV {α:Type} {n:Nat} {i:TV} {f:N->R α} {y:α} (h:BW n i f=some y):∃m,BW n i some=some m/\f m=some y:=by
 rw[jE (g:=some) (K:=f) (f:=f) n i (λ_=>rfl)] at h;cases hm:BW n i some with
 |none=>rw[hm] at h;cases h
 |some m=>rw[hm] at h;exact⟨m,rfl,h⟩
theorem uA {α:Type} {n:Nat} {i:TV} {f:N->R α} {y:α} (h:K1 n i f=some y):∃m,K1 n i some=some m/\f m=some y:=by
 rw[qp (g:=some) (K:=f) (f:=f) n i (λ_=>rfl)] at h;cases hm:K1 n i some with
 |none=>rw[hm] at h;cases h
 |some m=>rw[hm] at h;exact⟨m,rfl,h⟩
def BM (B:Bs):Option TV->Option Value->Prop
 |none,none=>True
 |some a,some v=>Rv B a v
 |_,_=>False
theorem fj {P:Program} {w:World} {k:IntKind} {m y:Nat} (h:m<=y) (code:BoundsCode):(Instr.sliceBound (.int k (m:Int)) y code).run P w= .ok m w:=by
 have h1:((m:Int)<=(y:Int)):=ade;simp[Instr.sliceBound,asIntOf,h1]
theorem mX {α:Type} {n:Nat} {lo hi:Option TV} {f:Bool->N->N->R α} {y:α} {B:Bs} {u v:Option Value} (h:im n lo hi f=some y) (hl:BM B lo u) (hh:BM B hi v):
 ∃z l k,l<=k/\k<=n/\(z=true->l=0)/\f z l (k-l)=some y/\∀(P:Program) (w:World) (b:Bool) (cap:Nat),n<=cap->(Instr.sliceBounds b n cap u v none).run P w= .ok (l,k,cap) w:=by
 unfold im at h;cases hi with
 |none=>
  cases v with
  |some v=>exact hh.elim
  |none=>
   cases lo with
   |none=>
    cases u with
    |some u=>exact hl.elim
    |none=>exact⟨true,0,n,ae5 _,adw _,λ_=>rfl,h,λP w b cap _=>by simp[Instr.sliceBounds]⟩
   |some lo=>
    cases u with
    |none=>exact hl.elim
    |some u=>
     obtain⟨m,h1,h2⟩:=uA h;obtain⟨h3,k,rfl⟩:=uB h1 hl;exact⟨false,m,n,h3,adw _,λe=>(by cases e),h2,λP w b cap _=>by simp[Instr.sliceBounds,fj h3]⟩
 |some hi=>
  cases v with
  |none=>exact hh.elim
  |some v=>
   obtain⟨q,g1,h⟩:=uA h;obtain⟨g3,k,rfl⟩:=uB g1 hh;cases lo with
   |none=>
    cases u with
    |some u=>exact hl.elim
    |none=>exact⟨true,0,q,ae5 _,g3,λ_=>rfl,h,λP w b cap hc=>by simp[Instr.sliceBounds,fj (aem g3 hc)]⟩
   |some lo=>
    cases u with
    |none=>exact hl.elim
    |some u=>
     obtain⟨m,h1,h2⟩:=uA h;obtain⟨h3,k',rfl⟩:=uB h1 hl;exact⟨false,m,q,h3,g3,λe=>(by cases e),h2,λP w b cap hc=>by simp[Instr.sliceBounds,fj (aem g3 hc),fj h3]⟩
def cut (z l k:Nat):Value->Value
 | .slice ad _ c=> .slice (if c=l then ad else ad.map (·.add (l*z))) (k-l) (c-l)
 |v=>v
theorem r8 {p:Option (Nat×Nat)} {z o n l k:Nat} {v:Value} (H:fH p z o n v) (hl:l<=k) (hk:k<=n):fH p z (o+l) (k-l) (cut z l k v)/\∃ad c,v= .slice ad n c/\n<=c:=by
 obtain⟨hb,H⟩:=H;refine⟨⟨ade,?_⟩,?_⟩
 ·cases p with
  |none=>
   obtain⟨rfl,a,rfl⟩:=H;obtain rfl:k=0:=ade;obtain rfl:l=0:=ade;exact⟨rfl,a,rfl⟩
  |some x=>
   obtain⟨b,s⟩:=x;rcases H with⟨c,rfl,h1,h2⟩|⟨rfl,a,rfl⟩
   ·by_cases e:c=l
    ·refine .inr ⟨ade,some ⟨b,o*z,none⟩,?_⟩;show Value.slice (if c=l then _ else _) (k-l) (c-l)=_;rw[adp e,show k-l=0 by omega,show c-l=0 by omega]
    ·refine .inl ⟨c-l,?_,ade,?_⟩
     ·show Value.slice (if c=l then _ else _) (k-l) (c-l)=_;rw[adq e];show Value.slice (some ((⟨b,o*z,none⟩:Addr).add (l*z))) _ _=_;rw[Addr.add_mid,aei]
     ·rw[<-aei,show o+l+(c-l)=o+c by omega,aei];exact h2
   ·obtain rfl:k=0:=by omega
    obtain rfl:l=0:=ade;exact .inr ⟨rfl,a,rfl⟩
 ·cases p with
  |none=>
   obtain⟨rfl,a,rfl⟩:=H;exact⟨a,0,rfl,ae5 _⟩
  |some x=>
   obtain⟨b,s⟩:=x;rcases H with⟨c,rfl,h1,h2⟩|⟨rfl,a,rfl⟩
   ·exact⟨_,c,rfl,h1⟩
   ·exact⟨a,0,rfl,adw _⟩
theorem XO {F:Nat->Prop} {w:World} {z n l k:Nat} {Q Q':(Nat->Value)->Nat->Prop} {v:Value} (hQ:∀c o,Q c o->Q' c (o+l*z)) (H:vj F w z n Q v) (hl:l<=k) (hk:k<=n):vj F w z (k-l) Q' (cut z l k v)/\∃ad c,v= .slice ad n c/\n<=c:=by
 obtain⟨hb,hz,H⟩:=H;rcases H with⟨rfl,a,c,rfl,hc⟩|⟨b,o,c,cs,T,fz,rfl,h1,h2,h3,h4,h5⟩
 ·obtain rfl:k=0:=by omega
  obtain rfl:l=0:=ade;refine⟨⟨hb,hz, .inl ⟨rfl,_,_,rfl,λe=> ?_⟩⟩,a,c,rfl,ae5 _⟩
  by_cases h:c=0
  ·rw[h]
  ·rw[adq h] at e;cases a with
   |none=>rw[hc rfl]
   |some a=>cases e
 ·refine⟨⟨ade,hz,?_⟩,_,c,rfl,h1⟩
  by_cases e:c=l
  ·refine .inl ⟨ade,some ⟨b,o,none⟩,0,?_,λ_=>rfl⟩;show Value.slice (if c=l then _ else _) (k-l) (c-l)=_;rw[adp e,show k-l=0 by omega,show c-l=0 by omega]
  ·refine .inr ⟨b,o+l*z,c-l,cs,T,fz,?_,ade,h2,h3,?_,hQ _ _ h5⟩
   ·show Value.slice (if c=l then _ else _) (k-l) (c-l)=_;rw[adq e];show Value.slice (some ((⟨b,o,none⟩:Addr).add (l*z))) _ _=_;rw[Addr.add_mid]
   ·have:(k-l)*z+l*z=k*z:=by rw[<-aei];congr 1;omega
    have h3:k*z<=n*z:=ae4 z hk;omega
theorem HL {P:Program} {t e:TypeId} {i:TypeInfo} (ht:bU P t=some (.slice e)) (hi:P.info? e=some i) {w:World} {ad:Option Addr} {n c l k z:Nat} (hz:i.size=z) {a b:Option Value} (hb:(Instr.sliceBounds true n c a b none).run P w= .ok (l,k,c) w):
 (Instr.sliceAt t (.slice ad n c) a b none).run P w= .ok (cut z l k (.slice ad n c)) w:=by
 subst hz;simp[Instr.sliceAt,Instr.slice,run_underlying (bp ht).1,hb,sizeOf,typeInfo,hi,cut]
theorem j9 {P:Program} {ε:TypeId} {z:Nat} (h1:1<=cg P ε) (h2:cg P ε=z):∃i,P.info? ε=some i/\i.size=z:=by
 obtain⟨i,_,h3,h4⟩:=rF h1;exact⟨i,h3,h4.trans h2⟩
theorem JX {T:CT} {s:TS} {B:Bs} {t:TypeId} {a tv:TV} {lo hi:Option TV} {u:Value} {p q:Option Value} (h:th T s t a lo hi gz=some tv) (L:ll s.hp B) (ha:Rv B a u) (hl:BM B lo p) (hh:BM B hi q):
 ∃r,(∀w,(Instr.sliceAt t u p q none).run T.P w= .ok r w)/\Rv B tv r:=by
 unfold th at h;split at h
 ·rename_i ht;split at h
  ·rename_i x;obtain⟨st,rfl,rfl,h2⟩:=PV ha;obtain⟨_,l,k,h3,h4,_,h5,h6⟩:=mX h hl hh;have h4:k<=(bZ st).length:=h4;have h6:∀(P:Program) (w:World) (b:Bool) (cap:Nat),(bZ st).length<=cap->(Instr.sliceBounds b (bZ st).length cap p q none).run P w= .ok (l,k,cap) w:=h6;rw[dv] at h4 h6;have h2:(bZ st).length<dU:=h2;rw[dv] at h2;cases h5;refine⟨.string (st.extract l k),λw=>by simp[Instr.sliceAt,Instr.slice,run_underlying (bp ht).1,h6 T.P w false st.size (adw _)],?_⟩;have e:XQ (bZ st) l (k-l)=bZ (st.extract l k):=by
    unfold XQ bZ;rw[ByteArray.data_extract,Array.toList_extract,List.extract_eq_take_drop,List.map_take,List.map_drop]
   rw[e];exact mkS _ (by rw[ByteArray.size_extract];omega)
  ·cases h
 ·rename_i ε ht
  replace h:=aQ h;obtain⟨h1,h⟩:=h
  have h1:=adv h1;have ref:∀{j o st:Nat} {n:Option Nat} {e:Ty} {l:(Ty.sl e).T} {f:Bool->N->N->R TV},nth .bu s.hp j=⟨st, .row e l⟩->st<=2->uX a=some (j,o,n)->cg T.P ε=e.cells->im (n.getD (List.length l)) lo hi f=some tv->
   (∀z x m,f z x m=some tv->(z=true->x=0)->(tv= .rn j m/\z=true/\o=0)\/tv= .rs j (o+x) m)->∃r,(∀w,(Instr.sliceAt t u p q none).run T.P w= .ok r w)/\Rv B tv r:=λ{j o st n e l f} hE hs hx hz hb hf=>by
   obtain⟨r0,l',r1,r2,r3,r4⟩:=B5 L hE hs hx ha;obtain⟨z,x,k,h3,h4,h5,h6,h7⟩:=mX hb hl hh;obtain⟨c1,ad,c,rfl,c2⟩:=r8 r4 h3 h4;obtain⟨i,DK,j6⟩:=j9 h1 hz;refine⟨_,λw=>HL ht DK j6 (h7 T.P w true c c2),?_⟩;rcases hf z x _ h6 h5 with⟨rfl,hz,ho⟩|rfl
   ·have:=h5 hz;subst this;subst ho;exact a8m r0 r1 (by rw[r2];omega) c1
   ·exact a8n r0 r1 (by rw[r2];omega) c1
  split at h
  ·rename_i e l
   replace h:=aQ h;obtain⟨hz,h⟩:=h
   have hz:=adu hz;obtain⟨z,x,k,h3,h4,h5,h6,h7⟩:=mX h hl hh;obtain⟨c1,ad,c,rfl,c2⟩:=XO (λc o h=>bQ.take (k-x) (bQ.drop x h)) (rvL ha) h3 h4;obtain⟨i,DK,j6⟩:=j9 h1 hz;refine⟨_,λw=>HL ht DK j6 (h7 T.P w true c c2),?_⟩;cases h6;have hlen:List.length ((List.drop x l).take (k-x))=k-x:=by
    have h4:k<=List.length l:=h4;rw[adY,ael];omega
   refine dG rfl rfl rfl (uW c1) ?_;show vj B.F B.w e.cells (List.length ((List.drop x l).take (k-x))) _ _;rw[hlen];exact c1
  ·rename_i j;generalize hE:s.bP j=E at h;obtain⟨st,tb⟩:=E;cases tb with
   |row e l=>
    replace h:=aQ h;obtain⟨hc,h⟩:=h
    rw[adr] at hc;refine ref (n:=none) hE (adv hc.1) rfl (adu hc.2) h λz x m e hx=> ?_
    cases z with
    |true=>cases e;exact .inl ⟨rfl,rfl,rfl⟩
    |false=>cases e;exact .inr (by rw[adI];rfl)
   |_=>cases h
  ·rename_i j n;generalize hE:s.bP j=E at h;obtain⟨st,tb⟩:=E;cases tb with
   |row e l=>
    replace h:=aQ h;obtain⟨hc,h⟩:=h
    rw[adr] at hc;refine ref (n:=some n) hE (adv hc.1) rfl (adu hc.2) h λz x m e hx=> ?_
    cases z with
    |true=>cases e;exact .inl ⟨rfl,rfl,rfl⟩
    |false=>cases e;exact .inr (by rw[adI];rfl)
   |_=>cases h
  ·rename_i j o n;generalize hE:s.bP j=E at h;obtain⟨st,tb⟩:=E;cases tb with
   |row e l=>
    replace h:=aQ h;obtain⟨hc,h⟩:=h
    rw[adr] at hc;refine ref (n:=some n) hE (adv hc.1) rfl (adu hc.2) h λz x m e hx=> ?_
    cases e;exact .inr rfl
   |_=>cases h
  ·cases h
 ·rename_i n ε ht;split at h;rotate_left
  ·cases h
  rename_i j w;split at h;rotate_left
  ·cases h
  rename_i m e hty
  replace h:=aQ h;obtain⟨hc,h⟩:=h
  simp only[adr] at hc;obtain⟨c1,c2,c3⟩:=hc;cases h;obtain⟨h7,b,s',q',h1,h2,rfl⟩:=YC ha;have hp:p=none:=by cases p with|none=>rfl|some _=>exact hl.elim
  have hq:q=none:=by cases q with|none=>rfl|some _=>exact hh.elim
  subst hp;subst hq;obtain⟨i,DK,j6⟩:=rF (adv c2);refine⟨.slice (some ⟨b,q',none⟩) n n,λw=> ?_,a8o h7 h1 h2⟩;have a1:=run_underlying (w:=w) (bp ht).1
  by_cases n0:n=0
  ·subst n0;simp[Instr.sliceAt,Instr.slice,ri,a1,Instr.sliceBounds,sizeOf,typeInfo,j6]
  ·simp[Instr.sliceAt,Instr.slice,ri,a1,Instr.sliceBounds,sizeOf,typeInfo,j6,n0,Addr.add]
 ·cases h
theorem SG {T:CT} {B:Bs} {op:BinOp} {t:TypeId} {a tv:TV} {u:Value} (h:FG T op t a gz=some tv) (ha:Rv B a u):
 ∃r,(∀w,(binOp op t u (.slice none 0 0)).run T.P w= .ok r w)/\Rv B tv r/\∃p n c,u= .slice p n c:=by
 unfold FG at h;split at h;rotate_left
 ·cases h
 rename_i ε ht;split at h;rotate_left
 ·cases h
 rename_i e l;cases h;have eq:∀(D:Nat) (ad:Option Addr) (n c:Nat) (w:World),(Op.equalIn (D+1) t (.slice ad n c) (.slice none 0 0)).run T.P w= .ok ad.isNone w:=λD ad n c w=>by
  cases ad<;>simp[Op.equalIn,run_underlying (bp ht).1]
 have run:∀(ad:Option Addr) (n c:Nat) (w:World),(binOp .eql t (.slice ad n c) (.slice none 0 0)).run T.P w= .ok (.bool ad.isNone) w:=λad n c w=>by
  have e:(Op.equal t (.slice ad n c) (.slice none 0 0)).run T.P w= .ok ad.isNone w:=eq 9999 ad n c w;simp only[binOp,Sem.run_bind,e,Sem.run_pure];rfl
 obtain⟨_,_,g3⟩:=rvL ha;rcases g3 with⟨g3,ad,c,rfl,g4⟩|⟨b,o,c,cs,T',fz,rfl,_⟩
 ·exact⟨_,run _ _ _,dG rfl rfl rfl rfl ⟨_,rfl,λ_=>g3⟩,_,_,_,rfl⟩
 ·exact⟨_,run _ _ _,dG rfl rfl rfl rfl ⟨_,rfl,λh=>by cases h⟩,_,_,_,rfl⟩
theorem Pj {T:CT} {B:Bs} {t:TypeId} {a hi mx tv:TV} {u p q:Value} (h:zJ T t a hi mx gz=some tv) (ha:Rv B a u) (hh:Rv B hi p) (hm:Rv B mx q):
 ∃r,(∀w,(Instr.sliceAt t u none (some p) (some q)).run T.P w= .ok r w)/\Rv B tv r:=by
 unfold zJ at h;split at h;rotate_left
 ·cases h
 rename_i ε ht
 replace h:=aQ h;obtain⟨h1,h⟩:=h
 have h1:=adv h1;split at h;rotate_left
 ·cases h
 rename_i e l
 replace h:=aQ h;obtain⟨hz,h⟩:=h
 have hz:=adu hz;obtain⟨i,DK,j6⟩:=j9 h1 hz;split at h;rotate_left
 ·cases h
 rename_i x y;rw[Kr] at h;split at h;rotate_left
 ·cases h
 rename_i hxy;cases h;obtain⟨rfl,_,_⟩:=Kd hh;obtain⟨rfl,_,_⟩:=Kd hm;have hx:x=(List.length l:Int):=hxy.1;have hy:y=(List.length l:Int):=hxy.2;subst hx;subst hy;have run:∀(ad:Option Addr) (c:Nat),List.length l<=c->∀w,(Instr.sliceAt t (.slice ad (List.length l) c) none (some (.int (kd 3) (List.length l:Int))) (some (.int (kd 3) (List.length l:Int)))).run T.P w= .ok (.slice (if List.length l=0 then ad else ad.map (·.add 0)) (List.length l) (List.length l)) w:=λad c hc w=>by
  simp[Instr.sliceAt,Instr.slice,Instr.sliceBounds,run_underlying (bp ht).1,fj hc,fj (adw (List.length l)),sizeOf,typeInfo,DK]
 obtain⟨g1,g2,g3⟩:=rvL ha;rcases g3 with⟨g3,ad,c,rfl,g4⟩|⟨b,o,c,cs,T',fz,rfl,k1,k2,k3,k4,k5⟩
 ·have g3:List.length l=0:=g3;have:=run ad c ade;rw[g3] at this;refine⟨_,by rw[g3];exact this,dG rfl rfl rfl rfl ⟨⟨_,0,rfl⟩,g1,g2, .inl ⟨g3,_,0,rfl,λ_=>rfl⟩⟩⟩
 ·refine⟨_,run _ c k1,?_⟩;have e0:(if List.length l=0 then some (⟨b,o,none⟩:Addr) else(some (⟨b,o,none⟩:Addr)).map (·.add 0))=some ⟨b,o,none⟩:=by
   split<;>rfl
  rw[e0];exact dG rfl rfl rfl rfl ⟨⟨_,_,rfl⟩,g1,g2, .inr ⟨b,o,_,cs,T',fz,rfl,adw _,k2,k3,k4,k5⟩⟩
end
end Go.Proofs.YtbjcjppphoppfaaGreat.T
