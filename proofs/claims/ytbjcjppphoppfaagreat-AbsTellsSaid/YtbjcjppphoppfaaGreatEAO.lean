import Derived.Test.YtbjcjppphoppfaaGreatEAN
set_option linter.all false
namespace Go.Proofs.YtbjcjppphoppfaaGreat.T
open Go
noncomputable section
attribute [local instance] pa
def PG (P:Program) (l:List (Nat×bB)):Prop:=∀f F,tT f l=some F->aL P f F
theorem a_ {P:Program}:PG P []:=λ_ _ h=>by cases h
theorem aj {P:Program} {l:List (Nat×bB)} {f:Nat} {F:bB} (h:aL P f F) (t:PG P l):PG P ((f,F)::l):=λg G hg=>by
 have hg:(bif Nat.beq f g then some F else tT g l)=some G:=hg;cases hb:Nat.beq f g with
 |true=>
  rw[hb] at hg;have e:=adu hb;subst e;cases hg;exact h
 |false=>rw[hb] at hg;exact t g G hg
def Iv (P:Program) (f:Nat):Bool:=match xX P.funcs.toList f with
 |some fn=>fn.body.isSome&& !(fn.name== "runtime.NumGoroutine")
 |none=>false
theorem DX {P:Program} {f:Nat} (h:Iv P f=true):Can P f:=by
 unfold Iv at h;split at h
 ·rename_i fn hf;rw[adr,adn] at h;refine⟨fn,?_,?_,h.2⟩
  ·rw[mm] at hf;rw[<-adU];exact hf
  ·cases hb:fn.body with
   |none=>rw[hb] at h;cases h.1
   |some b=>rfl
 ·cases h
theorem X8 {P:Program} {l:List Nat} (h:l.all (Iv P)=true):∀f,fy f l=true->Can P f:=λ_ hf=>DX (adE.1 h _ (dz.1 hf))
theorem az {P:Program} {f:Nat} {F:bB} (h:aL P f F):PG P [(f,F)]:=aj h a_
def okB (P:Program) (inl:List Nat) (f:Nat) (F:bB):Bool:=(inl.all (Iv P)&&Iv P f)&&(fq F.a&&fq F.r)
theorem Hy {P:Program} {inl:List Nat} {f:Nat} {F:bB} (h:okB P inl f F=true):(∀g,fy g inl=true->Can P g)/\Can P f/\fq F.a=true/\fq F.r=true:=by
 unfold okB at h;rw[adr,adr,adr] at h;exact⟨X8 h.1.1,DX h.1.2,h.2⟩
theorem EL {P:Program} (hd:20<=P.depth) (hm:P.follows .mixedOrders=true) {gv:Nat} (inl:List Nat) (vn:List (List Nat×List Nat×List Nat)) (dup:List (List Nat)) {fn:List (Nat×bB)} {f:Nat} {F:bB} (ud:PG P fn) (hk:tfn ⟨P,gv,fn,inl,vn,dup⟩ f F.a F.r F.fresh=F) (hc:okB P inl f F=true):aL P f F:=by
 obtain⟨h1,h2,h3,h4⟩:=Hy hc;have k:=XV (T:=⟨P,gv,fn,inl,vn,dup⟩) (fresh:=F.fresh) (OW hd hm) ud h1 h2 h3 h4;rw[hk] at k;exact k
theorem WE {P:Program} (hd:20<=P.depth) (hm:P.follows .mixedOrders=true) {gv:Nat} (inl:List Nat) (vn:List (List Nat×List Nat×List Nat)) (dup:List (List Nat)) {fn:List (Nat×bB)} {f:Nat} {F:bB} (ud:PG P fn) (hk:dfn ⟨P,gv,fn,inl,vn,dup⟩ f F.a F.r F.fresh=F) (hc:okB P inl f F=true):aL P f F:=by
 obtain⟨h1,h2,h3,h4⟩:=Hy hc;have k:=UX (T:=⟨P,gv,fn,inl,vn,dup⟩) (fresh:=F.fresh) hd (λD d=>@OW D _ hd hm d) ud h1 h2 h3 h4;rw[hk] at k;exact k
theorem hdP:20<=Pr.depth:=adv (by kernel_rfl)
theorem hmP:Pr.follows .mixedOrders=true:=by kernel_rfl
abbrev gvP:Nat:=80
theorem iq (inl:List Nat) (vn:List (List Nat×List Nat×List Nat)) (dup:List (List Nat)) {fn:List (Nat×bB)} {f:Nat} {F:bB} (ud:PG Pr fn) (hk:tfn ⟨Pr,gvP,fn,inl,vn,dup⟩ f F.a F.r F.fresh=F:=by kernel_rfl) (hc:okB Pr inl f F=true:=by kernel_rfl):aL Pr f F:=EL hdP hmP inl vn dup ud hk hc
theorem dB (vn:List (List Nat×List Nat×List Nat)) {fn:List (Nat×bB)} {f:Nat} {F:bB} (ud:PG Pr fn) (hk:tfn ⟨Pr,gvP,fn,[],vn,[]⟩ f F.a F.r F.fresh=F:=by kernel_rfl) (hc:okB Pr [] f F=true:=by kernel_rfl):aL Pr f F:=EL hdP hmP [] vn [] ud hk hc
theorem aB {fn:List (Nat×bB)} {f:Nat} {F:bB} (ud:PG Pr fn) (hk:tfn ⟨Pr,gvP,fn,[],[],[]⟩ f F.a F.r F.fresh=F:=by kernel_rfl) (hc:okB Pr [] f F=true:=by kernel_rfl):aL Pr f F:=EL hdP hmP [] [] [] ud hk hc
theorem WD (inl:List Nat) (vn:List (List Nat×List Nat×List Nat)) (dup:List (List Nat)) {fn:List (Nat×bB)} {f:Nat} {F:bB} (ud:PG Pr fn) (hk:dfn ⟨Pr,gvP,fn,inl,vn,dup⟩ f F.a F.r F.fresh=F:=by kernel_rfl) (hc:okB Pr inl f F=true:=by kernel_rfl):aL Pr f F:=WE hdP hmP inl vn dup ud hk hc
theorem uG {P:Program} {f:Nat} {a r:List Ty} {fresh:Bool} {g:fE.T a->R (fE.T r)} (hg:∀x,g x=none) (w8:Iv P f=true) (ha:fq a=true):aL P f ⟨a,r,fresh,g⟩:=
 ⟨DX w8,ha,λ_ _ _ x _ _ _ _ _ _ _ h=>by have h:g x=_:=h;rw[hg] at h;cases h⟩
end
end Go.Proofs.YtbjcjppphoppfaaGreat.T
