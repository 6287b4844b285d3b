/- wreckagelaw36.AbsTells returns true for every input, and leaves its arguments as they were. No condition. -/
import Derived.Test.YtbjcjppphoppfaaGreatEBH
import Derived.Test.YtbjcjppphoppfaaGreatEBI
import Derived.Test.YtbjcjppphoppfaaGreatRows
import Derived.ProofKit
import Derived.OpenShut
import Derived.ChangeOld
import Derived.Below
set_option linter.all false
namespace Go.Proofs.YtbjcjppphoppfaaGreat.T
open Go Go.RowKit
theorem Q0 {w:World} {x:bf} {i:Int} {e:nT} {v0 v1 v2:Value} {n:Nat} (hl:M.f3 n x i e=some true)
 (h0:xI bH.ag bH.cells v0) (k0:bI (λ_=>False) w bH x (cv v0) 0)
 (h1:xI (Ty.i 3).ag (Ty.i 3).cells v1) (k1:bI (λ_=>False) w (.i 3) i (cv v1) 0)
 (h2:xI jK.ag jK.cells v2) (k2:bI (λ_=>False) w jK e (cv v2) 0):
 Calls Pr 3 #[v0,v1,v2] w λr w'=>r= .returned (.bool true)/\Below w.heap.size w w':=by
 have hA:oU (λ_=>False) w [bH, .i 3,jK] (x,i,e) #[v0,v1,v2].toList:=⟨v0,_,rfl,⟨h0,k0⟩,v1,_,rfl,⟨h1,k1⟩,v2,rfl,h2,k2⟩;have hF:M.F3 n=⟨[bH, .i 3,jK],[.b],false,λx=>M.f3 n x.1 x.2.1 x.2.2⟩:=by unfold M.F3;rfl
 exact WG (a:=[bH, .i 3,jK]) (x:=(x,i,e)) (M.ok3 n) hF hl hA
theorem YY:y7 Pr bH none 36=true:=by kernel_rfl
theorem a7r:y7 Pr (.i 3) none 3=true:=by kernel_rfl
theorem YZ:y7 Pr jK none 38=true:=by kernel_rfl
end Go.Proofs.YtbjcjppphoppfaaGreat.T
namespace Go.Proofs.YtbjcjppphoppfaaGreat
open Go.ChangeShapes Go.WideShapes Go.ChangeAt Go.RowKit
theorem Tryz.X_:Tryz.prog.underlying 4=some .bool:=by kernel_rfl
set_option maxRecDepth 100000 in
theorem u0 (os:Os) (started:os.Started) (H:Type) (enc:TypeId×Value->H):
 ReturnsInHanded {} Tryz.checked os 3 .any (Rows.absTellsSpec.pre6 enc Tryz.prog Tryz.f3 Rows.absTellsRow.domain false) (Rows.absTellsSpec.post enc Tryz.prog Tryz.f3 false true false false):=by
 refine returnsInHanded_of_change (C:=Tryz.checked) zT started (by kernel_rfl) Tryz.func3
  (ChangeSpec.witness6 (enc:=enc) (C:=Tryz.checked) false ⟨#[],#[.agg #[.slice none 0 0, .slice none 0 0, .slice none 0 0, .int .i64 0, .int .i64 0, .int .i64 0, .int .i64 0, .int .u64 0, .slice none 0 0, .slice none 0 0, .slice none 0 0, .int .i64 0], .int .i64 0, .agg #[.int .u8 0, .int .i64 0, .int .i64 0]],[]⟩ 8 (by kernel_rfl) (by kernel_rfl) (by kernel_rfl) (by kernel_rfl)) ?_
 intro W base args ds gs before Tv hW abY _;have RJ:∀(j:Nat) t v,Tryz.f3.params[j]? =some t->args[j]? =some v->Value.okWide Tryz.prog W .any base t v:=Tv;have hW':=hW;obtain⟨p,q,hA0,hV,rfl,WW,Yp⟩:=hW;have hA:DataW.TrodAll enc Tryz.prog W 0 (λ_=>true) true Tryz.f3.params.toList args.toList ds p:=hA0;rw[Tryz.params3] at hA RJ;obtain⟨v0,vs0,d0,ds0,p0,q0,Cm,rfl,rfl,h0,r0⟩:=trodAll_cons hA;obtain⟨v1,vs1,d1,ds1,p1,q1,rfl,rfl,rfl,h1,r1⟩:=trodAll_cons r0;obtain⟨v2,vs2,d2,ds2,p2,q2,rfl,rfl,rfl,h2,r2⟩:=trodAll_cons r1;obtain⟨rfl,rfl,rfl⟩:=trodAll_nil r2;obtain rfl:args= #[v0,v1,v2]:=by cases args;simp_all
 obtain⟨rfl,rfl⟩:=trodVars_none hV;have lt0:∀x∈p0,x.block<W.heap.size:=by obtain⟨m,hm⟩:=h0;exact DataW.trod_lt m _ _ _ hm
 have lt1:∀x∈p1,x.block<W.heap.size:=by obtain⟨m,hm⟩:=h1;exact DataW.trod_lt m _ _ _ hm
 have lt2:∀x∈p2,x.block<W.heap.size:=by obtain⟨m,hm⟩:=h2;exact DataW.trod_lt m _ _ _ hm
 obtain⟨m,m1,m2⟩:=Go.Proofs.YtbjcjppphoppfaaGreat.T.C_ Go.Proofs.YtbjcjppphoppfaaGreat.T.YY (RJ 0 36 v0 rfl rfl) h0;obtain⟨i,i1,i2⟩:=Go.Proofs.YtbjcjppphoppfaaGreat.T.open_int Go.Proofs.YtbjcjppphoppfaaGreat.T.a7r (RJ 1 3 v1 rfl rfl) h1;obtain⟨e,e1,e2⟩:=Go.Proofs.YtbjcjppphoppfaaGreat.T.C_ Go.Proofs.YtbjcjppphoppfaaGreat.T.YZ (RJ 2 38 v2 rfl rfl) h2;clear hA0 Tv;refine(Go.Proofs.YtbjcjppphoppfaaGreat.T.Q0 (Go.Proofs.YtbjcjppphoppfaaGreat.M.a0z (Go.Proofs.YtbjcjppphoppfaaGreat.T.r9 _ m _ _ m2) i e) m1 m2 i1 i2 e1 e2).mono λr W' ⟨he,bel⟩=> ?_
 subst he;exact⟨_,rfl,_,_,_,[],_,[],hW',trodAll_mk1 (shut_bool Tryz.X_ _),(trodAll_cons_mk (Below.trod GX (by kernel_rfl) (of_decide_eq_true (by kernel_rfl)) h0 bel lt0) (trodAll_cons_mk (Below.trod GX (by kernel_rfl) (of_decide_eq_true (by kernel_rfl)) h1 bel lt1) (trodAll_cons_mk (Below.trod GX (by kernel_rfl) (of_decide_eq_true (by kernel_rfl)) h2 bel lt2) trodAll_mk0))),rfl,bel.frame _,λh=>by cases h⟩
theorem absTells_holds:Rows.AbsTellsSaid:=
 OpenClaim.holds_of_wide 3 Tryz.f3 rfl rfl rfl rfl rfl rfl rfl ⟨rfl,rfl,rfl,rfl,rfl⟩ rfl rfl rfl rfl rfl (by kernel_rfl) Tryz.func3 facts
  (of_decide_eq_true (by kernel_rfl)) (by unfold Func.isWrapper;first|(rw[if_pos (by decide+kernel)];kernel_rfl)|(rw[if_neg (by decide+kernel)];exact⟨rfl,rfl⟩))
  (λos started H enc _=>u0 os started H enc)
end Go.Proofs.YtbjcjppphoppfaaGreat
