import Derived.Test.YtbjcjppphoppfaaGreatEAG
import Derived.OrdersIn
set_option linter.all false
namespace Go.Proofs.YtbjcjppphoppfaaGreat.T
open Go
noncomputable section
def ja (B:Bs) (s:TS) (op:Op) (ρ:Operand->Value):Prop:=∀x∈op.operands.toList,Rv B (dn s x) (ρ x)
def ma (T:CT) (s:TS) (op:Op):Prop:=cls T.P op=1->∀a,spot op=some a->∀j,BI (dn s a)=some j->(nth .bu s.hp j).st<=2
def DR (T:CT) (s:TS) (op:Op) (B:Bs):Prop:=cls T.P op=1->∀a,spot op=some a->rZ s.hp B (dn s a)
def vk (T:CT) (s:TS) (o:Oper) (tv:TV) (s':TS):Prop:=∃l H',freeze s.hp l=some H'/\s'=⟨s.fr,H'⟩/\(ok0 T s o.op=true->l=[])/\ma T s o.op/\
 ∀(X:Fx) (B:Bs) (ρ:Operand->Value),bw X B->ja B s o.op ρ->ll s.hp B->m9 s.hp B l->DR T s o.op B->∃r,(execOp ρ o).run T.P B.w= .ok (.value r) B.w/\Rv B tv r
def Km (T:CT) (s:TS) (o:Oper) (tv:TV) (s':TS):Prop:=∃l es H' tb mk,freeze s.hp l=some H'/\(∀j∈l,∃x∈o.op.operands.toList,j∈ids (dn s x))/\(∀e∈es,1<=e.cells)/\s'=TS.new ⟨s.fr,H'++ed es⟩ tb/\(mk=TV.r\/(mk=λj=>TV.p j [])\/mk=TV.m)/\tv=mk (s.hp.length+es.length)/\
 ∀(X:Fx) (B:Bs) (ρ:Operand->Value),bw X B->ja B s o.op ρ->m9 s.hp B l->∃run:Sem Value,(execOp ρ o).run T.P B.w=((do pure (.value (<-run)):Sem Next)).run T.P B.w/\lp T.P B run (tm es s.hp.length) tb mk
def Nx (r:Next) (x:Value):Prop:=r= .value x\/(r= .skip/\x=undef)
def FN (T:CT) (s:TS) (o:Oper) (tv:TV) (s':TS):Prop:=∀(X:Fx) (B:Bs) (ρ:Operand->Value),bw X B->s.hp=B.H->ja B s o.op ρ->∃B' r nx,s'=⟨s.fr,B'.H⟩/\bo B B'/\bw X B'/\Rv B' tv r/\(execOp ρ o).run T.P B.w= .ok nx B'.w/\Nx nx r
theorem jN {P:Program} {s:Sem Value} {w w':World} {x:Value} (h:s.run P w= .ok x w'):((do pure (.value (<-s)):Sem Next)).run P w= .ok (.value x) w':=by
 rw[Sem.run_bind,h];rfl
theorem Dh {P:Program} {s:Sem Unit} {w w':World} (h:s.run P w= .ok () w'):((do s;pure .skip:Sem Next)).run P w= .ok .skip w':=by
 rw[Sem.run_bind,h];rfl
section
variable {T:CT} {s s':TS} {o:Oper} {tv:TV}
theorem vk.of (hs:s'=s) (hl:ma T s o.op) (H:∀(X:Fx) (B:Bs) (ρ:Operand->Value),bw X B->ja B s o.op ρ->ll s.hp B->DR T s o.op B->∃r,(execOp ρ o).run T.P B.w= .ok (.value r) B.w/\Rv B tv r):vk T s o tv s':=
 ⟨[],s.hp,rfl,hs,λ_=>rfl,hl,λX B ρ I hO L _ hS=>H X B ρ I hO L hS⟩
theorem ma.no (h:cls T.P o.op≠1):ma T s o.op:=λe=>absurd e h
theorem Ou {x:R TV} (h:(Option.bind x λv=>dA v s)=some (tv,s')):x=some tv/\s'=s:=by
 cases x with
 |none=>cases h
 |some v=>cases h;exact⟨rfl,rfl⟩
theorem qa {f:(TV->R (TV×TS))->R (TV×TS)} {x:R TV} (hn:∀K,f K=B1 K x) (h:f (λv=>dA v s)=some (tv,s')):x=some tv/\s'=s:=by
 rw[hn] at h;exact Ou h
theorem sC {H:List TE} {t:Ty} {x:TV} {y:t.T} (h:ly H t x y):t.flat=true->ids x=[]:=by
 induction h with
 |v t x=>intro _;rfl
 |nl e=>intro h;cases h
 |r e j st l h hs=>intro h;cases h
 |rn e j st n l h hs=>intro h;cases h
 |rs e j st o n l h hs=>intro h;cases h
 |un=>intro _;rfl
 |pr a c x y p q _ _ i1 i2=>
  intro h;have h:(a.flat&&c.flat)=true:=h;rw[adr] at h;show ids x++ids y=[];rw[i1 h.1,i2 h.2];rfl
 |gv=>intro h;cases h
theorem pH:∀(t:Ty) (l:List Nat),t.kinds=some l->t.flat=true
 | .pr a c,l,h=>by
   have h:(match a.kinds,c.kinds with|some x,some y=>some (x++y)|_,_=>none)=some l:=h;split at h
   ·rename_i g1 g2;show(a.flat&&c.flat)=true;rw[pH a _ g1,pH c _ g2];rfl
   ·cases h
 | .un,_,_| .i _,_,_| .u _,_,_| .b,_,_| .s,_,_=>rfl
 | .sl _,_,h| .ar _ _,_,h| .gv,_,h=>by cases h
theorem SE {op:BinOp} {t:TypeId} {a b:TV} (h:SD T s op t a b gz=some tv):ids a++ids b=[]:=by
 unfold SD at h;split at h
 ·rename_i ty ht
  replace h:=aQ h;obtain⟨hc,h⟩:=h
  rw[adr,adr] at hc;have hk:=hc.1.1;unfold Ax at hk;split at hk
  ·rename_i ks ks' e1 e2;have hf:=pH ty _ e2;split at h
   ·rename_i p q hp hq;rw[sC (du ty a hp) hf,sC (du ty b hq) hf];rfl
   ·cases h
  ·cases hk
 ·cases h
theorem Up {B:Bs} {op:Op} {ρ:Operand->Value} (h:ja B s op ρ) (x:Option Operand) (hm:∀y,x=some y->y∈op.operands.toList):BM B (x.map (dn s)) (x.map ρ):=by
 cases x with
 |none=>trivial
 |some y=>exact h y (hm y rfl)
theorem AP {B:Bs} {ρ:Operand->Value}:∀(l:List Operand) (tv:TV),CZ s l=some tv->(∀x∈l,Rv B (dn s x) (ρ x))->Rl B tv (l.map ρ)
 |[],tv,h,_=>by
  have h:some TV.un=some tv:=h;cases h;rfl
 |x::r,tv,h,hO=>by
  obtain⟨hu,h⟩:=aQ (show(bif k_ (dn s x) then(match CZ s r with|some y=>some (TV.pr (dn s x) y)|none=>none) else none)=some tv from h);split at h;rotate_left
  ·cases h
  rename_i y hy;cases h;have a1:=hO x adt;refine⟨ρ x,r.map ρ,rfl,?_,AP r y hy λz hz=>hO z (ady _ hz)⟩;rw[lx (λy e=>by rw[e] at hu;cases hu)] at a1;exact a1
theorem G0 {B:Bs}:∀(i:Nat) (x:TV) (l:List Value),Rl B x l->C0 i x≠ .bU->∃v,l[i]? =some v/\Whole (C0 i x) (Rp B (C0 i x)) v
 |0, .pr a b,l,⟨v,r,e,h1,h2⟩,_=>by subst e;exact⟨v,rfl,h1⟩
 |k+1, .pr a b,l,⟨v,r,e,h1,h2⟩,hn=>by
  subst e;obtain⟨u,g1,g2⟩:=G0 k b r h2 hn;exact⟨u,by simpa using g1,g2⟩
 |0, .un,_,_,hn|0, .bU,_,_,hn|0, .nI,_,_,hn|0, .nl,_,_,hn|0, .v _ _,_,_,hn|0, .r _,_,_,hn|0, .rn _ _,_,_,hn|0, .rs _ _ _,_,_,hn|0, .p _ _,_,_,hn|0, .q _ _,_,_,hn|0, .tp _,_,_,hn|0, .f _ _ _ _,_,_,hn|0, .cl _ _,_,_,hn|0, .nz _,_,_,hn|0, .sa _ _ _,_,_,hn=>absurd rfl hn
 |_+1, .un,_,_,hn|_+1, .bU,_,_,hn|_+1, .nI,_,_,hn|_+1, .nl,_,_,hn|_+1, .v _ _,_,_,hn|_+1, .r _,_,_,hn|_+1, .rn _ _,_,_,hn|_+1, .rs _ _ _,_,_,hn|_+1, .p _ _,_,_,hn|_+1, .q _ _,_,_,hn|_+1, .tp _,_,_,hn|_+1, .f _ _ _ _,_,_,hn|_+1, .cl _ _,_,_,hn|_+1, .nz _,_,_,hn|_+1, .sa _ _ _,_,_,hn=>absurd rfl hn
theorem JO {a b:Operand} (h:Bc a b=true):a=b:=by
 unfold Bc at h;split at h
 ·rw[adu h]
 ·cases h
theorem xp {t:TypeId} {a:TV} (h:nJ T s t a gz=some tv):∀j,BI a=some j->(nth .bu s.hp j).st<=2:=by
 intro j hj;unfold nJ at h;split at h
 ·cases hj
 ·cases hj
  replace h:=aQ h
  exact adv h.1
 ·cases h
theorem SC {t d:TypeId} {a:TV} (h:kM T s t d a dA=some (tv,s')):(s'=s/\¬(bU T.P t=some .string/\∃e,bU T.P d=some (.slice e))/\((∃e,bU T.P t=some (.slice e))->∀j∈ids a,(nth .bu s.hp j).st<=2))\/
 ∃tb,s'=s.new tb/\tv= .r s.hp.length/\bU T.P t=some .string/\∃e,bU T.P d=some (.slice e):=by
 unfold kM at h;split at h
 ·rename_i k k' ht hd;refine .inl ⟨?_,λe=>(by rw[ht] at e;cases e.1),λ⟨e,he⟩=>(by rw[ht] at he;cases he)⟩;split at h
  ·cases hb:Nat.beq (kc k') 3 with
   |true=>rw[hb] at h;cases h;rfl
   |false=>
    rw[hb] at h
    replace h:=aQ h
    cases h.2;rfl
  ·rename_i q x;cases hb:Nat.beq (kc k') 3 with
   |true=>rw[hb] at h;cases h;rfl
   |false=>
    rw[hb] at h
    replace h:=aQ h
    have h:=h.2;cases uc:Nat.beq (kc k') q with
    |true=>rw[uc] at h;cases h;rfl
    |false=>rw[uc] at h;cases h;rfl
  ·cases h
 ·rename_i ht hd;split at h
  ·cases h;exact .inl ⟨rfl,λ⟨_,e,he⟩=>(by rw[hd] at he;cases he),λ⟨e,he⟩=>(by rw[ht] at he;cases he)⟩
  ·cases h
 ·rename_i e ht hd
  replace h:=aQ h;obtain⟨_,h⟩:=h
  split at h
  ·have h:=(vw h).2;cases h;exact .inr ⟨_,rfl,rfl,ht,e,hd⟩
  ·cases h
 ·rename_i e ht hd
  replace h:=aQ h;obtain⟨_,h⟩:=h
  split at h
  ·rename_i x hx;cases h;exact .inl ⟨rfl,λ⟨he,_⟩=>(by rw[ht] at he;cases he),λ_=>(du (.sl (.u 4)) a hx).live⟩
  ·cases h
 ·cases h
theorem R_ {a b:TB} (h:s.new a=s.new b):a=b:=by
 have h:s.hp++[(⟨1,a⟩:TE)]=s.hp++[⟨1,b⟩]:=congrArg TS.hp h;have h:=List.append_cancel_left h;injection h with h;injection h
theorem N_ {a:TB} (h:s.new a=s):False:=by
 have h:(s.hp++[(⟨1,a⟩:TE)]).length=s.hp.length:=congrArg (λs=>s.hp.length) h;rw[ado,adJ] at h;omega
theorem XP {H:List TE} {e:Ty} {a:TV} {y:(Ty.sl e).T} (h:ly H (.sl e) a y):∀j∈ids a,BI a=some j:=by
 cases h with
 |v=>intro j hj;cases hj
 |nl=>intro j hj;cases hj
 |r=>intro j hj;rw[adF.1 hj];rfl
 |rn=>intro j hj;rw[adF.1 hj];rfl
 |rs=>intro j hj;rw[adF.1 hj];rfl
theorem Dv {t d:TypeId} {a:TV} (h:kM T s t d a dA=some (tv,s')) (ht:∃e,bU T.P t=some (.slice e)):(∀j∈ids a,BI a=some j)/\∀j,BI a=some j->j∈ids a:=by
 obtain⟨e0,ht⟩:=ht;unfold kM at h;split at h
 ·rename_i h1 _;rw[ht] at h1;cases h1
 ·rename_i h1 _;rw[ht] at h1;cases h1
 ·rename_i h1 _;rw[ht] at h1;cases h1
 ·replace h:=aQ h;obtain⟨_,h⟩:=h
  split at h
  ·rename_i x hx;have sh:=du (.sl (.u 4)) a hx;refine⟨XP sh,?_⟩;cases sh with
   |v=>intro j hj;cases hj
   |nl=>intro j hj;cases hj
   |r=>intro j hj;cases hj;exact adF.2 rfl
   |rn=>intro j hj;cases hj;exact adF.2 rfl
   |rs=>intro j hj;cases hj;exact adF.2 rfl
  ·cases h
 ·cases h
theorem Ha:∀{ps:List (Nat×Operand)} {j:Nat},j∈jr s ps->∃p∈ps,j∈ids (dn s p.2)
 |[],_,h=>by cases h
 |(i,x)::r,j,h=>by
  rcases adC.1 h with h|h
  ·exact⟨_,adt,h⟩
  ·obtain⟨p,h1,h2⟩:=Ha h;exact⟨p,ady _ h1,h2⟩
theorem US {t:TypeId} {n:Nat} (ps:Array (Nat×Operand)) {j:Nat} (h:j∈jr s ps.toList):∃x∈(Op.buildSlice t n ps).operands.toList,j∈ids (dn s x):=by
 obtain⟨p,h1,h2⟩:=Ha h;exact⟨p.2,by simp only[Op.operands,List.toList_toArray];exact List.mem_map.2 ⟨p,h1,rfl⟩,h2⟩
theorem NU (hd:20<=T.P.depth) {call:eZ (TV×TS)} (hl:lone o.op=true) (hc:cls T.P o.op<=2) (h:tf T call s o.op dA=some (tv,s')):(vk T s o tv s'/\cls T.P o.op<=1)\/(Km T s o tv s'/\cls T.P o.op=2):=by
 have w0:∀{P:Program} {w:World} {ρ:Operand->Value} {f:Sem Value} {r:Value},execOp ρ o=(do pure (.value (<-f)))->f.run P w= .ok r w->(execOp ρ o).run P w= .ok (.value r) w:=λe hr=>by rw[e];exact jN hr
 cases d6:o.op<;>rw[d6] at h hl hc<;>first|cases h|skip
 case move x=>
  obtain⟨_,h⟩:=mW (show(bif yQ (dn s x) then none else dA (dn s x) s)=some (tv,s') from h);cases h;exact .inl ⟨.of rfl (.no (by rw[d6];exact aej)) λX B ρ I hO L _=>⟨ρ x,by simp only[execOp,d6,Sem.run_pure],hO x (by rw[d6];simp[Op.operands])⟩,ae5 _⟩
 case assign x=>
  obtain⟨_,h⟩:=mW (show(bif yQ (dn s x) then none else dA (dn s x) s)=some (tv,s') from h);cases h;exact .inl ⟨.of rfl (.no (by rw[d6];exact aej)) λX B ρ I hO L _=>⟨ρ x,by simp only[execOp,d6,Sem.run_pure],hO x (by rw[d6];simp[Op.operands])⟩,ae5 _⟩
 case pick c a b=>
  obtain⟨h1,h2⟩:=qa (tg _ _ _) h;exact .inl ⟨.of h2 (.no (by rw[d6];exact aej)) λX B ρ I hO L _=>by
   rw[d6] at hO;obtain⟨t,e,hr⟩:=Pn h1 (hO c (by simp[Op.operands])) (hO a (by simp[Op.operands])) (hO b (by simp[Op.operands]));exact⟨_,by simp only[execOp,d6,e,asBool,Sem.run_bind,Sem.run_pure,Result.andThen_ok],hr⟩,ae5 _⟩
 case alloc t=>
  obtain⟨es,tb,q1,q2,q3,q4⟩:=zI (show mB T s t none dA=_ from h);exact .inr ⟨⟨[],es,s.hp,tb,λj=> .p j [],rfl,λ_ h=>(by cases h),q3,q1, .inr (.inl rfl),q2,λX B ρ I hO _=>⟨_,by simp only[execOp,d6],(q4 B).1 rfl⟩⟩,rfl⟩
 case box t x=>
  obtain⟨es,tb,q1,q2,q3,q4⟩:=zI (show mB T s t (some (dn s x)) dA=_ from h);exact .inr ⟨⟨[],es,s.hp,tb,λj=> .p j [],rfl,λ_ h=>(by cases h),q3,q1, .inr (.inl rfl),q2,λX B ρ I hO _=>⟨_,by simp only[execOp,d6],(q4 B).2 _ _ rfl (hO x (by rw[d6];simp[Op.operands]))⟩⟩,rfl⟩
 case build t ps=>
  obtain⟨H',q1,q2,q3⟩:=JQ (show pZ T s t ps.toList dA=_ from h);refine .inl ⟨⟨_,H',q1,q2,λe=> ?_, .no (by rw[d6];exact aej),λX B ρ I hO L hF _=> ?_⟩,ae5 _⟩
  ·rw[d6] at e;have e:(ir T t||(jr s ps.toList).isEmpty)=true:=e;unfold pn
   by_cases hs:ir T t=true
   ·rw[adp hs]
   ·rw[adq hs];rw[aec] at e;exact List.isEmpty_iff.1 (e.resolve_left hs)
  ·rw[d6] at hO;obtain⟨r,r1,r2⟩:=q3 X B ρ I (λp hp=>hO p.2 (by simp only[Op.operands,List.toList_toArray];exact List.mem_map.2 ⟨p,hp,rfl⟩)) hF;exact⟨r,w0 (by simp only[execOp,d6]) (r1 B.w),r2⟩
 case buildSlice t n ps=>
  obtain⟨H',tb,q1,q2,q3,q4⟩:=xn (show fV T s t n ps.toList dA=_ from h);refine .inr ⟨⟨_,[],H',tb, .r,q1,λj hj=>(by rw[d6];exact US _ hj),λ_ h=>(by cases h),by rw[show ed []=[] from rfl,adP];exact q2, .inl rfl,q3,λX B ρ I hO hF=>⟨Instr.buildSlice t n (ps.map λ(i,x)=>(i,ρ x)),by simp only[execOp,d6],?_⟩⟩,rfl⟩;rw[d6] at hO;obtain⟨r,p,w',m1,m2,m3,m4,m5,m6,m7⟩:=q4 X B ρ I (λp hp=>hO p.2 (by simp only[Op.operands,List.toList_toArray];exact List.mem_map.2 ⟨p,hp,rfl⟩)) hF;exact⟨r,p,w',m1,m2,m3,m4,m5,λB' st e _ L=>m6 B' st e trivial L,m7⟩
 case makeMap t r=>
  cases r with
  |some r=>cases h
  |none=>
   obtain⟨tb,q1,q2,q3⟩:=Dy (show nL T s t dA=_ from h);refine .inr ⟨⟨[],[],s.hp,tb, .m,rfl,λ_ h=>(by cases h),λ_ h=>(by cases h),by rw[show ed []=[] from rfl,adP];exact q1, .inr (.inr rfl),q2,λX B ρ I hO _=>⟨Instr.makeMap t none,by simp only[execOp,d6,Option.map_none],?_⟩⟩,rfl⟩;obtain⟨r,p,w',m1,m2,m3,m4,m5,m6,m7⟩:=q3 B;exact⟨r,p,w',m1,m2,m3,m4,m5,λB' st e _ L=>m6 B' st e trivial L,m7⟩
 case lookup t m k c=>
  cases c with
  |true=>cases h
  |false=>
   obtain⟨h1,h2⟩:=qa (nK _ _ _) h;have live:ma T s o.op:=λ_ b hb j hj=>by
    rw[d6] at hb;have hb:some m=some b:=hb;cases hb;exact Bq h1 j hj
   refine .inl ⟨.of h2 live λX B ρ I hO L hS=> ?_,show 1<=1 by decide⟩;have hS':=hS (by rw[d6];rfl) m (by rw[d6];rfl);rw[d6] at hO;obtain⟨r,r1,r2⟩:=FE I h1 hS' (hO m (by simp[Op.operands])) (hO k (by simp[Op.operands]));exact⟨r,w0 (by simp only[execOp,d6]) r1,r2⟩
 case mapUpdate t m k v=>exact absurd hc (show¬3<=2 by decide)
 case load t a=>
  obtain⟨h1,h2⟩:=qa (ox _ _) h;have live:ma T s o.op:=λ_ b hb j hj=>by
   rw[d6] at hb;have hb:some a=some b:=hb;cases hb;exact xp h1 j hj
  exact .inl ⟨.of h2 live λX B ρ I hO L hS=>by
   obtain⟨r,r1,r2⟩:=Dx h1 I (hS (by rw[d6];rfl) a (by rw[d6];rfl)) (hO a (by rw[d6];simp[Op.operands]));exact⟨r,w0 (by simp only[execOp,d6]) r1,r2⟩,adw _⟩
 case store=>exact absurd hc (by show¬3<=2;decide)
 case nilCheck x=>
  have key:s'=s/\tv=dn s x/\((∃j w,dn s x= .p j w)\/(∃t v,dn s x= .q t v)\/∃f a n m,dn s x= .f f a n m):=by
   have h:(match dn s x with| .p j w=>(match s.bP j with|⟨st,_⟩=>bif Nat.ble st 2 then dA (.p j w) s else none)| .q t x=>dA (.q t x) s| .f g x n m=>dA (.f g x n m) s|_=>none)=some (tv,s'):=h;split at h
   ·rename_i j w e
    replace h:=aQ h
    have h:=h.2;cases h;exact⟨rfl,e.symm, .inl ⟨j,w,e⟩⟩
   ·rename_i t v e;cases h;exact⟨rfl,e.symm, .inr (.inl ⟨t,v,e⟩)⟩
   ·rename_i g y n m e;cases h;exact⟨rfl,e.symm, .inr (.inr ⟨g,y,n,m,e⟩)⟩
   ·cases h
  obtain⟨h2,h1,h3⟩:=key;refine .inl ⟨.of h2 (.no (by rw[d6];exact aej)) λX B ρ I hO L _=>⟨ρ x,?_,by rw[h1];exact hO x (by rw[d6];simp[Op.operands])⟩,ae5 _⟩;have ha:=hO x (by rw[d6];simp[Op.operands]);rcases h3 with⟨j,w,e⟩|⟨t,v,e⟩|⟨f,y,n,m,e⟩
  ·rw[e] at ha;obtain⟨_,b,z,q,_,_,e2⟩:=YC ha;simp only[execOp,d6,e2,Sem.run_pure]
  ·rw[e] at ha;obtain⟨b,o',e2,_⟩:=XJ ha;simp only[execOp,d6,e2,Sem.run_pure]
  ·rw[e] at ha;obtain⟨_,fs,cs,e2,_⟩:=d7 rfl rfl ha;simp only[execOp,d6,e2,Sem.run_pure]
 case binOp op t x y u=>
  have h:(bif O0 y then FG T op t (dn s x) (λx=>dA x s) else bif ir T t then SD T s op t (dn s x) (dn s y) (λx=>dA x s) else FB T op t (dn s x) (dn s y) λx=>dA x s)=some (tv,s'):=h;have ho:∀{B:Bs} {ρ:Operand->Value},ja B s o.op ρ->Rv B (dn s x) (ρ x)/\Rv B (dn s y) (ρ y):=λhO=>by
   rw[d6] at hO;exact⟨hO x (by simp[Op.operands]),hO y (by simp[Op.operands])⟩
  cases Jf:O0 y with
  |true=>
   rw[Jf] at h;obtain⟨h1,h2⟩:=qa (xu _ _ _) h;have hy:y= .const (.slice none 0 0):=by
    revert Jf;cases y<;>intro h<;>first|cases h|exact congrArg _ (sE h)
   refine .inl ⟨.of h2 (.no (by rw[d6];exact aej)) λX B ρ I hO L _=> ?_,ae5 _⟩;obtain⟨ha,hb⟩:=ho hO;obtain⟨r,r1,r2,p,n,c,r3⟩:=SG h1 ha;have hv:ρ y= .slice none 0 0:=by
    rw[hy] at hb⊢;exact(d7 (x:= .nl) rfl rfl hb).2
   have hg:(eqGuard op t x y (ρ x) (ρ y)).run T.P B.w= .ok () B.w:=nG B.w (by rintro⟨q1,_⟩;rw[r3] at q1;cases q1) (by intro cs ds q _;rw[r3] at q;cases q);have hr:=r1 B.w;rw[<-hv] at hr;exact⟨r,by simp only[execOp,d6,Sem.run_bind,hg,hr,Result.andThen_ok,Sem.run_pure],r2⟩
  |false=>
  rw[Jf,cond_false] at h;cases hs:ir T t with
  |true=>
   rw[hs] at h;obtain⟨h1,h2⟩:=qa (Bo _ _ _ _) h;have Av:=SE h1;refine .inl ⟨.of h2 (.no (by rw[d6];exact aej)) λX B ρ I hO L _=> ?_,ae5 _⟩;obtain⟨ha,hb⟩:=ho hO;obtain⟨r,r1,r2⟩:=XS hd h1 I (by rw[Av];exactλj hj=>by cases hj) ha hb x y;obtain⟨g1,g2⟩:=r1 B.w;exact⟨r,by simp only[execOp,d6,Sem.run_bind,g1,g2,Result.andThen_ok,Sem.run_pure],r2⟩
  |false=>
   rw[hs] at h;obtain⟨h1,h2⟩:=qa (xm _ _ _ _) h;refine .inl ⟨.of h2 (.no (by rw[d6];exact aej)) λX B ρ I hO L _=> ?_,ae5 _⟩;obtain⟨ha,hb⟩:=ho hO;obtain⟨⟨tv',r,e1,e2,e3⟩,_,EP⟩:=SB (K:=gz) h1 ha hb;cases e1;have hg:(eqGuard op t x y (ρ x) (ρ y)).run T.P B.w= .ok () B.w:=nG B.w (by rintro⟨q1,q2⟩;rcases EP with⟨_,_,_,_,q,_⟩|⟨_,_,q,_⟩|⟨_,_,q,_⟩<;>(rw[q1] at q;cases q)) (λcs ds q1 _=>by rcases EP with⟨_,_,_,_,q,_⟩|⟨_,_,q,_⟩|⟨_,_,q,_⟩<;>(rw[q1] at q;cases q));exact⟨r,by simp only[execOp,d6,Sem.run_bind,hg,e3,Result.andThen_ok,Sem.run_pure],e2 B⟩
 case unOp op t x=>
  obtain⟨h1,h2⟩:=qa (Bt _ _) h;exact .inl ⟨.of h2 (.no (by rw[d6];exact aej)) λX B ρ I hO L _=>by
   obtain⟨r,r1,r2⟩:=XT h1 (hO x (by rw[d6];simp[Op.operands]));exact⟨r,w0 (by simp only[execOp,d6]) (r1 B.w),r2⟩,ae5 _⟩
 case convert t d x=>
  have h:kM T s t d (dn s x) dA=some (tv,s'):=h;rcases SC h with⟨e1,e2,e3⟩|⟨tb,e1,e2,e3,e,e4⟩
  ·have jq:cls T.P o.op<=1:=by
    rw[d6];show(match bU T.P t,bU T.P d with|some (.slice _),some .string=>1|some .string,some (.slice _)=>2|some (.slice _),some (.slice _)=>6|_,_=>0)<=1;have hc:(match bU T.P t,bU T.P d with|some (.slice _),some .string=>1|some .string,some (.slice _)=>2|some (.slice _),some (.slice _)=>6|_,_=>0)<=2:=hc;revert hc;split
    ·intro _;decide
    ·rename_i h1 h2;exact absurd ⟨h1,_,h2⟩ e2
    ·intro h;omega
    ·intro _;decide
   have h1c:(∃e,bU T.P t=some (.slice e))->cls T.P o.op=1:=λ⟨e,he⟩=>by
    rw[d6] at jq⊢;have jq:(match bU T.P t,bU T.P d with|some (.slice _),some .string=>1|some .string,some (.slice _)=>2|some (.slice _),some (.slice _)=>6|_,_=>0)<=1:=jq;show(match bU T.P t,bU T.P d with|some (.slice _),some .string=>1|some .string,some (.slice _)=>2|some (.slice _),some (.slice _)=>6|_,_=>0)=1;have hdd:bU T.P d=some .string:=by
     unfold kM at h;split at h
     ·rename_i g1 _;rw[he] at g1;cases g1
     ·rename_i g1 _;rw[he] at g1;cases g1
     ·rename_i g1 _;rw[he] at g1;cases g1
     ·rename_i g1 g2;exact g2
     ·cases h
    rw[he,hdd]
   have live:ma T s o.op:=λh1 b hb j hj=>by
    rw[d6] at hb;have hb:some x=some b:=hb;cases hb
    by_cases ht:∃e,bU T.P t=some (.slice e)
    ·exact e3 ht j ((Dv h ht).2 j hj)
    ·exfalso;rw[d6] at h1;have h1:(match bU T.P t,bU T.P d with|some (.slice _),some .string=>1|some .string,some (.slice _)=>2|some (.slice _),some (.slice _)=>6|_,_=>0)=1:=h1;split at h1
     ·rename_i g _;exact ht ⟨_,g⟩
     ·cases h1
     ·cases h1
     ·cases h1
   refine .inl ⟨.of e1 live λX B ρ I hO L hS=> ?_,by rw[<-d6];exact jq⟩;have ha:=hO x (by rw[d6];simp[Op.operands]);rcases Du h I (λht j hj=>hS (h1c ht) x (by rw[d6];rfl) j ((Dv h ht).1 j hj)) ha with⟨_,r,r1,r2⟩|⟨tb,g1,_⟩
   ·exact⟨r,w0 (by simp only[execOp,d6]) r1,r2⟩
   ·rw[e1] at g1;exact(N_ g1.symm).elim
  ·refine .inr ⟨⟨[],[],s.hp,tb, .r,rfl,λ_ h=>(by cases h),λ_ h=>(by cases h),by rw[show ed []=[] from rfl,adP];exact e1, .inl rfl,e2,λX B ρ I hO _=>⟨convert t d (ρ x),by simp only[execOp,d6],?_⟩⟩,?_⟩
   ·have ha:=hO x (by rw[d6];simp[Op.operands]);rcases Du h I (λ⟨e,he⟩=>by rw[e3] at he;cases he) ha with⟨g1,_⟩|⟨tb',g1,_,_,g4⟩
    ·rw[e1] at g1;exact(N_ g1).elim
    ·rw[e1] at g1;have:=R_ g1;subst this;obtain⟨r,p,w',m1,m2,m3,m4,m5,m6,m7⟩:=g4;exact⟨r,p,w',m1,m2,m3,m4,m5,λB' st e _ L=>m6 B' st e trivial L,m7⟩
   ·show(match bU T.P t,bU T.P d with|some (.slice _),some .string=>1|some .string,some (.slice _)=>2|some (.slice _),some (.slice _)=>6|_,_=>0)=2;rw[e3,e4]
 case makeFunc f a b=>
  cases f<;>first|cases h|skip
  rename_i f;have h:(match CZ s (a.toList++b.toList) with|some x=>dA (.f f x a.size b.size) s|none=>none)=some (tv,s'):=h;split at h
  ·rename_i x hx;cases h;refine .inl ⟨.of rfl (.no (by rw[d6];exact aej)) λX B ρ I hO L _=>⟨.func (.func f) (a.map ρ) (b.map ρ),by simp only[execOp,d6,Instr.makeFunc,Sem.run_bind,Sem.run_pure,Result.andThen_ok],?_⟩,ae5 _⟩;rw[d6] at hO;have:=AP (a.toList++b.toList) x hx (λz hz=>hO z (by simp only[Op.operands,Array.toList_append];exact hz));refine dG rfl rfl rfl rfl ⟨_,_,rfl,Array.size_map,Array.size_map,?_⟩;rw[Array.toList_map,Array.toList_map,<-List.map_append];exact this
  ·cases h
 case makeSlice t a b=>
  obtain⟨e,tb,q1,q2,q3⟩:=Pl (show xq T s t (Bc a b) (dn s a) (dn s b) dA=_ from h);have e:=JO e;subst e;refine .inr ⟨⟨[],[],s.hp,tb, .r,rfl,λ_ h=>(by cases h),λ_ h=>(by cases h),by rw[show ed []=[] from rfl,adP];exact q1, .inl rfl,q2,λX B ρ I hO _=>⟨Instr.makeSlice t (ρ a) (ρ a),by simp only[execOp,d6],?_⟩⟩,rfl⟩;obtain⟨r,p,w',m1,m2,m3,m4,m5,m6,m7⟩:=q3 B _ (hO a (by rw[d6];simp[Op.operands]));exact⟨r,p,w',m1,m2,m3,m4,m5,λB' st e _ L=>m6 B' st e trivial L,m7⟩
 case slice t x lo hi mx=>
  cases mx with
  |some m=>
   cases lo with
   |some lo=>cases h
   |none=>cases hi with
    |none=>cases h
    |some hi=>
     obtain⟨h1,h2⟩:=qa (tc _ _ _ _) h;have jq:cls T.P o.op=0:=by rw[d6];rfl
     refine .inl ⟨.of h2 (.no (by rw[jq];exact aej)) λX B ρ I hO L _=> ?_,by rw[<-d6,jq];exact ae5 _⟩;rw[d6] at hO;obtain⟨r,r1,r2⟩:=Pj h1 (hO x (by simp[Op.operands])) (hO hi (by simp[Op.operands])) (hO m (by simp[Op.operands]));exact⟨r,w0 (f:=Instr.sliceAt t (ρ x) none (some (ρ hi)) (some (ρ m))) (by simp only[execOp,d6,Option.map_none,Option.map_some]) (r1 B.w),r2⟩
  |none=>
   obtain⟨h1,h2⟩:=qa (q9 _ _ _ _) h;have jq:cls T.P o.op=0:=by rw[d6];rfl
   refine .inl ⟨.of h2 (.no (by rw[jq];exact aej)) λX B ρ I hO L _=> ?_,by rw[<-d6,jq];exact ae5 _⟩;rw[d6] at hO;obtain⟨r,r1,r2⟩:=JX h1 L (hO x (by simp[Op.operands])) (Up hO lo λy e=>by subst e;simp[Op.operands]) (Up hO hi λy e=>by subst e;simp[Op.operands]);exact⟨r,w0 (f:=Instr.sliceAt t (ρ x) (lo.map ρ) (hi.map ρ) none) (by simp only[execOp,d6,Option.map_none]) (r1 B.w),r2⟩
 case field t x k=>
  obtain⟨h1,h2⟩:=qa (p_ _ _ _) h;exact .inl ⟨.of h2 (.no (by rw[d6];exact aej)) λX B ρ I hO L _=>by
   obtain⟨r,r1,r2⟩:=JU h1 (hO x (by rw[d6];simp[Op.operands]));exact⟨r,w0 (by simp only[execOp,d6]) (r1 B.w),r2⟩,ae5 _⟩
 case fieldAddr t x k=>
  obtain⟨h1,h2⟩:=qa (kg _ _ _) h;exact .inl ⟨.of h2 (.no (by rw[d6];exact aej)) λX B ρ I hO L _=>by
   obtain⟨r,r1,r2⟩:=ye h1 L (hO x (by rw[d6];simp[Op.operands]));exact⟨r,w0 (by simp only[execOp,d6]) (r1 B.w),r2⟩,ae5 _⟩
 case indexAddr t x i=>
  obtain⟨h1,h2⟩:=qa (kh _ _ _) h;exact .inl ⟨.of h2 (.no (by rw[d6];exact aej)) λX B ρ I hO L _=>by
   obtain⟨r,r1,r2⟩:=yf h1 L (hO x (by rw[d6];simp[Op.operands])) (hO i (by rw[d6];simp[Op.operands]));exact⟨r,w0 (by simp only[execOp,d6]) (r1 B.w),r2⟩,ae5 _⟩
 case index t x i=>
  obtain⟨h1,h2⟩:=qa (q8 _ _ _) h;exact .inl ⟨.of h2 (.no (by rw[d6];exact aej)) λX B ρ I hO L _=>by
   obtain⟨r,r1,r2⟩:=JV h1 (hO x (by rw[d6];simp[Op.operands])) (hO i (by rw[d6];simp[Op.operands]));exact⟨r,w0 (by simp only[execOp,d6]) (r1 B.w),r2⟩,ae5 _⟩
 case extract x i=>
  have key:∃y,dn s x= .tp y/\C0 i y≠ .bU/\tv=C0 i y/\s'=s:=by
   have h:(match dn s x with| .tp x=>(match C0 i x with| .bU=>none|x=>dA x s)|_=>none)=some (tv,s'):=h;split at h
   ·rename_i y e;refine⟨y,e,?_⟩;split at h
    ·cases h
    ·rename_i hn;cases h;exact⟨λe=>hn e,rfl,rfl⟩
   ·cases h
  obtain⟨y,e1,e2,e3,e4⟩:=key;refine .inl ⟨.of e4 (.no (by rw[d6];exact aej)) λX B ρ I hO L _=> ?_,ae5 _⟩;have ha:=hO x (by rw[d6];simp[Op.operands]);rw[e1] at ha;obtain⟨vs,g1,g2⟩:=ha;obtain⟨v,g3,g4⟩:=G0 i y vs.toList g2 e2;refine⟨v,w0 (f:=Instr.extract (ρ x) i) (by simp only[execOp,d6]) ?_,?_⟩
  ·rw[g1];rw[adU] at g3;simp[Instr.extract,g3]
  ·rw[e3,lx]
   ·exact g4
   ·intro z hz;rw[hz] at g4;exact g4
 case call c=>
  have Ru:∀ρ b,c.callee= .builtin b->execOp ρ o=builtin b c.argTypes o.type (c.args.map λ| .const _=>true|_=>false) (c.args.map ρ):=λρ b hb=>by
   simp only[execOp,d6,resolve,hb];rfl
  have mem:∀x∈c.args.toList,x∈o.op.operands.toList:=λx hx=>by
   rw[d6];show x∈c.operands.toList;unfold Call.operands;split<;>simp_all
  unfold tf at h;dsimp only at h;split at h
  ·rename_i b hb;split at h
   ·
    rename_i t ts x X7 has;have wa:∀ρ:Operand->Value,c.args.map ρ= #[ρ x]:=λρ=>by rw[<-Array.toList_inj,Array.toList_map,has];rfl
    have h0:c.argTypes[0]? =some t:=by rw[<-adU,X7];rfl
    rw[Dw (g:=some) (K:=λn=>dA (.v (.i 3) (Cv n)) s) (f:=λn=>dA (.v (.i 3) (Cv n)) s) t (dn s x) (λ_=>rfl)] at h;have key:∃n,Bp T s t (dn s x) some=some n/\tv= .v (.i 3) (Cv n)/\s'=s:=by
     cases hn:Bp T s t (dn s x) some with
     |none=>rw[hn] at h;cases h
     |some n=>rw[hn] at h;cases h;exact⟨n,rfl,rfl,rfl⟩
    obtain⟨n,h1,h2,h3⟩:=key;have jq:cls T.P o.op=0:=by
     rw[d6];simp only[cls,hb];rw[show c.argTypes.getD 0 0=t by rw[adD,h0];rfl];split
     ·rename_i hu;unfold Bp at h1;rw[hu] at h1;cases h1
     ·rfl
    refine .inl ⟨.of h3 (.no (by rw[jq];exact aej)) λX B ρ I hO L _=> ?_,by rw[<-d6,jq];exact ae5 _⟩;obtain⟨r1,r2⟩:=SF h1 L (hO x (mem x (by rw[has];exact adt))) c.argTypes o.type h0;refine⟨_,w0 (f:=Builtin.len_ c.argTypes o.type #[ρ x]) (by rw[Ru ρ _ hb,wa];rfl) (r1 B.w),?_⟩;rw[h2];exact AH r2
   ·exfalso;rw[show cls T.P (.call c)=3 by simp only[cls,hb]] at hc;exact absurd hc (by decide)
   ·exfalso;rw[show cls T.P (.call c)=3 by simp only[cls,hb]] at hc;exact absurd hc (by decide)
   ·exfalso;rw[show cls T.P (.call c)=3 by simp only[cls,hb]] at hc;exact absurd hc (by decide)
   ·rename_i x y has;have wa:∀ρ:Operand->Value,c.args.map ρ= #[ρ x,ρ y]:=λρ=>by rw[<-Array.toList_inj,Array.toList_map,has];rfl
    obtain⟨h1,h2⟩:=qa (g_ _ _ _) h;have jq:cls T.P o.op=0:=by
     rw[d6];simp only[cls,hb]
    refine .inl ⟨.of h2 (.no (by rw[jq];exact aej)) λX B ρ I hO L _=> ?_,by rw[<-d6,jq];exact ae5 _⟩;obtain⟨r,r1,r2⟩:=xt h1 (hO x (mem x (by rw[has];exact adt))) (hO y (mem y (by rw[has];exact ady _ adt))) c.argTypes o.type;exact⟨r,w0 (f:=Builtin.min_ c.argTypes o.type #[ρ x,ρ y]) (by rw[Ru ρ _ hb,wa];rfl) (r1 B.w),r2⟩
   ·rename_i x y has;have wa:∀ρ:Operand->Value,c.args.map ρ= #[ρ x,ρ y]:=λρ=>by rw[<-Array.toList_inj,Array.toList_map,has];rfl
    obtain⟨h1,h2⟩:=qa (g_ _ _ _) h;have jq:cls T.P o.op=0:=by
     rw[d6];simp only[cls,hb]
    refine .inl ⟨.of h2 (.no (by rw[jq];exact aej)) λX B ρ I hO L _=> ?_,by rw[<-d6,jq];exact ae5 _⟩;obtain⟨r,r1,r2⟩:=xt h1 (hO x (mem x (by rw[has];exact adt))) (hO y (mem y (by rw[has];exact ady _ adt))) c.argTypes o.type;exact⟨r,w0 (f:=Builtin.max_ c.argTypes o.type #[ρ x,ρ y]) (by rw[Ru ρ _ hb,wa];rfl) (r1 B.w),r2⟩
   ·cases h
  ·rename_i hb;unfold lone at hl;dsimp only at hl;rw[hb] at hl;cases hl
  ·rename_i hb;unfold lone at hl;dsimp only at hl;rw[hb] at hl;cases hl
  ·cases h
end
end
noncomputable section
theorem OwnAt.mono {B B':Bs} (L:bo B B') {k:Nat} {e:Ty} (h:OwnAt B k e):OwnAt B' k e:=by
 obtain⟨h1,h2,h3⟩:=h;obtain⟨k1,k2,k3⟩:=L.e k h1;exact⟨k1,pI h2 k3,k2.trans h3⟩
theorem ja.mono {B B':Bs} (L:bo B B') {s:TS} {op:Op} {ρ:Operand->Value} (h:ja B s op ρ):ja B' s op ρ:=λx hx=>(h x hx).mono L
theorem fL.a0C {H:List TE} {B:Bs} (F:fL H B.H):ll H B:=λj _ _=>by
 have:(B.e j).b=(nth .bu H j).b:=F.b j;rw[this];exact cu _
section
variable {T:CT} {s s':TS} {o:Oper} {tv:TV}
theorem vk.wr (h:vk T s o tv s'):FN T s o tv s':=by
 intro X B ρ I hH hO;obtain⟨l,H',h1,h2,h3,h4,h5⟩:=h;rw[hH] at h1;obtain⟨L1,I1,F1,fz⟩:=fF I h1;have F1':fL s.hp (⟨B.F0,H',B.bs,B.w⟩:Bs).H:=by rw[hH];exact F1
 obtain⟨r,r1,r2⟩:=h5 X ⟨B.F0,H',B.bs,B.w⟩ ρ I1 (hO.mono L1) F1'.a0C (λj hj=>⟨fz j hj,F1'.b j⟩) (λhc a ha j hj=>by
  have:=h4 hc a ha j hj;refine⟨?_,F1'.b j⟩;show(nth .bu H' j).st<=2;rcases F1'.st j with k|⟨_,k⟩
  ·rw[show(nth .bu H' j).st=_ from k];exact this
  ·rw[show(nth .bu H' j).st=_ from k];decide)
 exact⟨_,r,_,h2,L1,I1,r2,r1, .inl rfl⟩
theorem Km.wr (h:Km T s o tv s'):FN T s o tv s':=by
 intro X B ρ I hH hO;obtain⟨l,es,H',tb,mk,h1,_,h2,h3,h4,h5,h6⟩:=h;rw[hH] at h1;obtain⟨L1,I1,F1,fz⟩:=fF I h1;obtain⟨B2,o1,o2,o3,o4,o5,o6⟩:=AT es I1 h2;have hl:H'.length=s.hp.length:=by rw[hH];exact F1.len
 have L2:=L1.trans o3;have hB2:B2.H.length=s.hp.length+es.length:=by rw[o1,ado,ed,ae0];show H'.length+_=_;rw[hl]
 obtain⟨run,r1,r,p,w',m1,m2,m3,m4,m5,m6,m7⟩:=h6 X B2 ρ o4 (hO.mono L2) (λj hj=>by
  have iJ:j<H'.length:=jB (B:=⟨B.F0,H',B.bs,B.w⟩) (by have:=fz j hj;show(nth .bu H' j).st≠7;omega);have:=(o5 j iJ).1;rw[this];exact⟨fz j hj,by rw[hH];exact F1.b j⟩)
 have own:∀{B':Bs},bo B2 B'->tm es s.hp.length B':=λL i e he=>by
  have:=(o6 i e he).mono L;have hx:(⟨B.F0,H',B.bs,B.w⟩:Bs).H.length=s.hp.length:=hl;rw[hx] at this;exact this
 obtain⟨L3,I3⟩:=o4.add (tb:=tb) (p:=p) (w':=w') m2 m3 m4 m5 (λL=>m6 _ 1 rfl (own L) L);have e2:B2.w=B.w:=o2;refine⟨B2.add tb p w',r, .value r,?_,L2.trans L3,I3,?_,?_, .inl rfl⟩
 ·rw[h3];show(⟨s.fr,(H'++ed es)++[⟨1,tb⟩]⟩:TS)=⟨s.fr,B2.H++[⟨1,tb⟩]⟩;rw[o1]
 ·rw[h5,<-hB2];refine m7 _ _ ?_ ?_ (r_ o4.len)
  ·rw[mU];exact show 1≠7 by decide
  ·rw[mU];exact cu _
 ·rw[<-e2,r1];exact jN m1
theorem RX (hd:20<=T.P.depth) {call:eZ (TV×TS)} (hl:lone o.op=true) (h:tf T call s o.op dA=some (tv,s')):FN T s o tv s':=by
 by_cases hc:cls T.P o.op<=2
 ·rcases NU hd hl hc h with h|h
  ·exact h.1.wr
  ·exact h.1.wr
 ·have no:cls T.P o.op<=2->FN T s o tv s':=λh=>absurd h hc
  cases d6:o.op<;>rw[d6] at h hl hc no<;>first|cases h|exact no (show 0<=2 by decide)|exact no (show 1<=2 by decide)|exact no (show 2<=2 by decide)|skip
  case store t a x=>
   rw[show tf T call s (.store t a x) dA=nM T s t (dn s a) (dn s x) λs=>dA .bU s from rfl,xv (g:=some) (K:=λs=>dA .bU s) (f:=λs=>dA .bU s) t (dn s a) (dn s x) (λ_=>rfl)] at h;intro X B ρ I hH hO;rw[d6] at hO;cases hs:nM T s t (dn s a) (dn s x) some with
   |none=>rw[hs] at h;cases h
   |some s1=>
    rw[hs] at h;cases h;obtain⟨B',h1,h2,h3,h4⟩:=JY I hH hs (hO a (by simp[Op.operands])) (hO x (by simp[Op.operands]));exact⟨B',undef, .skip,h1,h2,h3,trivial,by simp only[execOp,d6];exact Dh h4, .inr ⟨rfl,rfl⟩⟩
  case mapUpdate t m k v=>
   intro X B ρ I hH hO;rw[d6] at hO;have key:∀(h:v= .const (.bool true)),∃B' r nx,s'=⟨s.fr,B'.H⟩/\bo B B'/\bw X B'/\Rv B' tv r/\(execOp ρ o).run T.P B.w= .ok nx B'.w/\Nx nx r:=λhv=>by
    subst hv;have h:kO T s t (dn s m) (dn s k) (λs=>dA .bU s)=some (tv,s'):=h;rw[tS (g:=some) (K:=λs=>dA .bU s) (f:=λs=>dA .bU s) t (dn s m) (dn s k) (λ_=>rfl)] at h;cases hs:kO T s t (dn s m) (dn s k) some with
    |none=>rw[hs] at h;cases h
    |some s1=>
     rw[hs] at h;cases h;obtain⟨B',h1,h2,h3,h4⟩:=FF I hH hs (hO m (by simp[Op.operands])) (hO k (by simp[Op.operands]));have hv:ρ (.const (.bool true))= .bool true:=(d7 (x:= .v .b (Jq true)) rfl rfl (hO (.const (.bool true)) (by simp[Op.operands]))).2;exact⟨B',undef, .skip,h1,h2,h3,trivial,by simp only[execOp,d6,hv];exact Dh h4, .inr ⟨rfl,rfl⟩⟩
   unfold tf at h;dsimp only at h;split at h
   all_goals first|(rename_i e;cases e;exact key rfl)|(rename_i e;cases e)|cases h
  case convert t d x=>
   refine no ?_;show(match bU T.P t,bU T.P d with|some (.slice _),some .string=>1|some .string,some (.slice _)=>2|some (.slice _),some (.slice _)=>6|_,_=>0)<=2;have h:kM T s t d (dn s x) dA=some (tv,s'):=h;split
   ·decide
   ·decide
   ·rename_i g1 g2;unfold kM at h;rw[g1,g2] at h;cases h
   ·decide
  case call c=>
   have Ru:∀ρ b,c.callee= .builtin b->execOp ρ o=builtin b c.argTypes o.type (c.args.map λ| .const _=>true|_=>false) (c.args.map ρ):=λρ b hb=>by
    simp only[execOp,d6,resolve,hb];rfl
   have mem:∀x∈c.args.toList,x∈o.op.operands.toList:=λx hx=>by
    rw[d6];show x∈c.operands.toList;unfold Call.operands;split<;>simp_all
   unfold tf at h;dsimp only at h;split at h
   ·rename_i b hb;split at h
    ·refine no ?_;simp only[cls,hb];split<;>decide
    ·rename_i t u x y X7 has;have wa:∀ρ:Operand->Value,c.args.map ρ= #[ρ x,ρ y]:=λρ=>by rw[<-Array.toList_inj,Array.toList_map,has];rfl
     have qf:c.argTypes= #[t,u]:=by rw[<-Array.toList_inj,X7]
     intro X B ρ I hH hO;obtain⟨B',r,h1,h2,h3,h4,h5⟩:=FA I hH (ty:=o.type) h (hO x (mem x (by rw[has];exact adt))) (hO y (mem y (by rw[has];exact ady _ adt)));exact⟨B',r, .value r,h1,h2,h3,h4,by rw[Ru ρ _ hb,wa,qf];exact jN h5, .inl rfl⟩
    ·rename_i t u x y X7 has;have wa:∀ρ:Operand->Value,c.args.map ρ= #[ρ x,ρ y]:=λρ=>by rw[<-Array.toList_inj,Array.toList_map,has];rfl
     have h0:c.argTypes[0]? =some t:=by rw[<-adU,X7];rfl
     intro X B ρ I hH hO;obtain⟨B',r,h1,h2,h3,h4,h5⟩:=Pk I hH (ty:=o.type) h (hO x (mem x (by rw[has];exact adt))) (hO y (mem y (by rw[has];exact ady _ adt))) h0;exact⟨B',r, .value r,h1,h2,h3,h4,by rw[Ru ρ _ hb,wa];exact jN h5, .inl rfl⟩
    ·rename_i t u x X7 has;have wa:∀ρ:Operand->Value,c.args.map ρ= #[ρ x]:=λρ=>by rw[<-Array.toList_inj,Array.toList_map,has];rfl
     have h0:c.argTypes[0]? =some t:=by rw[<-adU,X7];rfl
     intro X B ρ I hH hO;obtain⟨B',r,h1,h2,h3,h4,h5⟩:=JR I hH (ty:=o.type) h (hO x (mem x (by rw[has];exact adt))) h0;exact⟨B',r, .value r,h1,h2,h3,h4,by rw[Ru ρ _ hb,wa];exact jN h5, .inl rfl⟩
    ·exact no (by simp only[cls,hb];decide)
    ·exact no (by simp only[cls,hb];decide)
    ·cases h
   ·rename_i hb;unfold lone at hl;dsimp only at hl;rw[hb] at hl;cases hl
   ·rename_i hb;unfold lone at hl;dsimp only at hl;rw[hb] at hl;cases hl
   ·cases h
end
end
noncomputable section
def Wf (r:Option Nat):Fence:={fn:=λ_=>True,depth:=none,alive:=false,round:=r}
def Can (P:Program) (f:FuncId):Prop:=∃fn,P.funcs[f]? =some fn/\fn.body.isNone=false/\(fn.name== "runtime.NumGoroutine")=false
theorem rh {P:Program} {f:FuncId} (h:Can P f) (args:Array Value) (w:World):(callFunc f args).run P w= .ok (.enter f args) w:=by
 obtain⟨fn,h1,h2,h3⟩:=h;have n1:¬fn.name= "runtime.NumGoroutine":=by simpa using h3
 have b1:¬fn.body=none:=λe=>by rw[e] at h2;cases h2
 simp[callFunc,h1,n1,b1]
theorem xB {P:Program} {o:Oper} {a:Act} {w w':World} {r:Option Nat} {n:Nat} {Q:Exit->Act->World->Prop} {K:Act->World->Prop} {nx:Next} {x:Value} (hd:∀c,o.op≠ .defer c) (h:(execOp a.eval o).run P w= .ok nx w') (hx:Nx nx x) (hk:K (a.put o.dst x) w'):o.wpIn (Wf r) n P a w K Q:=by
 refine⟨λ_ _=>trivial,?_⟩;rw[Oper.semAt_eq _ _ _ hd,h];rcases hx with rfl|⟨rfl,rfl⟩
 ·exact hk
 ·exact hk
def oU (G:Nat->Prop) (w:World):(ts:List Ty)->fE.T ts->List Value->Prop
 |[],_,l=>l=[]
 |[a],x,l=>∃v,l=[v]/\xI a.ag a.cells v/\bI G w a x (cv v) 0
 |a::b::r,x,l=>∃v q,l=v::q/\(xI a.ag a.cells v/\bI G w a x.1 (cv v) 0)/\oU G w (b::r) x.2 q
def fq (l:List Ty):Bool:=match l with|[]=>true|a::r=>a.pos&&fq r
def Df (F:bB) (y:fE.T F.r) (h:List TE):TV×List TE:=bif F.fresh then pS F.r y h else(unpack F.r y,h)
def aL (P:Program) (f:Nat) (F:bB):Prop:=Can P f/\fq F.a=true/\∀(X:Fx) (B:Bs) (G:Nat->Prop) (x:fE.T F.a) (y:fE.T F.r) (args:Array Value) (n:Nat),bw X B->(∀b,G b->B.F b)->((flatAll F.r||F.fresh)=true\/∀b,B.F b->G b)->oU G B.w F.a x args.toList->F.f x=some y->
 CallsIn (Wf none) n P f args B.w λe w'=>∃v B',e= .returned v/\B'.w=w'/\bo B B'/\bw X B'/\B'.H=(Df F y B.H).2/\Rv B' (mL F.r (Df F y B.H).1) v
theorem Whole.rv {B:Bs} {x:TV} {v:Value} (h:Whole x (Rp B x) v):Rv B x v:=by
 cases x<;>first|exact h|exact h.elim
theorem vq {X:Fx} {B:Bs} (I:bw X B) {G:Nat->Prop} (hG:∀b,G b->B.F b):∀(ts:List Ty) (a:TV) {x:fE.T ts} {l:List Value},fq ts=true->lA B.H ts a=some x->(∀j∈ids a,∀b s,B.b j=some (b,s)->¬G b)->Rl B a l->oU G B.w ts x l
 |[],a,x,l,_,h,_,hr=>by
  cases a<;>first|cases h|skip
  exact hr
 |[t],a,x,l,hp,h,hi,hr=>by
  cases a<;>first|cases h|skip
  rename_i p q;cases q<;>first|cases h|skip
  obtain⟨v,r,e,h1,h2⟩:=hr;have h2:r=[]:=h2;subst h2;have hp:(t.pos&&true)=true:=hp;rw[Bool.and_true] at hp;obtain⟨k1,k2⟩:=(du t p h).whole I hG hp (λj hj=>hi j (adM _ hj)) h1.rv;exact⟨v,e,k1,k2⟩
 |t::u::r,a,x,l,hp,h,hi,hr=>by
  cases a<;>first|cases h|skip
  rename_i p q;have h:(match tU B.H p t,lA B.H (u::r) q with|some p,some q=>some (p,q)|_,_=>none)=some x:=h;split at h
  ·rename_i y z h1 h2;cases h;obtain⟨v,rest,e,g1,g2⟩:=hr;have hp:(t.pos&&fq (u::r))=true:=hp;rw[adr] at hp;obtain⟨k1,k2⟩:=(du t p h1).whole I hG hp.1 (λj hj=>hi j (adM _ hj)) g1.rv;exact⟨v,rest,e,⟨k1,k2⟩,vq I hG (u::r) q hp.2 h2 (λj hj=>hi j (adH _ hj)) g2⟩
  ·cases h
def qg {ρ:Type} (X:Fx) (B:Bs) (fr:List TV) (K:TV->TS->R ρ) (y:ρ) (e:Ending) (w':World):Prop:=∃v tv B',e= .returned v/\B'.w=w'/\bo B B'/\bw X B'/\Rv B' tv v/\K tv ⟨fr,B'.H⟩=some y
theorem Ph {ρ:Type} {P:Program} {f:Nat} {F:bB} (hF:aL P f F) {X:Fx} {B:Bs} (I:bw X B) {s:TS} (hH:s.hp=B.H) {a:TV} {K:TV->TS->R ρ} {y:ρ} (h:HS s F a K=some y) {args:Array Value} (ha:Rl B a args.toList) (n:Nat):
 CallsIn (Wf none) n P f args B.w (qg X B s.fr K y):=by
 obtain⟨_,hp,hF⟩:=hF;unfold HS at h;obtain⟨_,h⟩:=aQ h;split at h;rotate_left
 ·cases h
 rename_i x hx;rw[hH] at hx h;have fin:∀{B1:Bs} {G:Nat->Prop},bw X B1->bo B B1->B1.w=B.w->(∀b,G b->B1.F b)->((flatAll F.r||F.fresh)=true\/∀b,B1.F b->G b)->oU G B1.w F.a x args.toList->
  (FV F.r (F.f x) λy=>(match(bif F.fresh then pS F.r y B1.H else(unpack F.r y,B1.H)) with|(y,h)=>K (mL F.r y) ⟨s.fr,h⟩))=some y->CallsIn (Wf none) n P f args B.w (qg X B s.fr K y):=by
  intro B1 G I1 L1 e1 hG Yj hA hk;unfold FV at hk;cases hy:F.f x with
  |none=>rw[hy] at hk;cases hk
  |some yv=>
   rw[hy] at hk;have hk:K (mL F.r (Df F yv B1.H).1) ⟨s.fr,(Df F yv B1.H).2⟩=some y:=hk;have:=hF X B1 G x yv args n I1 hG Yj hA hy;rw[e1] at this;refine this.mono λe w' ⟨v,B',q1,q2,q3,q4,q5,q6⟩=>⟨v,_,B',q1,q2,L1.trans q3,q4,q6,?_⟩
   rw[q5];exact hk
 cases hb:(flatAll F.r||F.fresh) with
 |true=>
  rw[hb] at h;exact fin (G:=λb=>B.F b/\∀j∈ids a,∀s,B.b j≠some (b,s)) I (bo.refl B) rfl (λb h=>h.1) (.inl hb) (vq I (λb h=>h.1) F.a a hp hx (λj hj b s e hg=>hg.2 j hj s e) ha) h
 |false=>
  rw[hb] at h;have h:(match freeze B.H (ids a) with
   |some h=>(FV F.r (F.f x) λy=>(match(bif F.fresh then pS F.r y h else(unpack F.r y,h)) with|(y,h)=>K (mL F.r y) ⟨s.fr,h⟩))
   |none=>none)=some y:=h
  split at h;rotate_left
  ·cases h
  rename_i H1 hf;obtain⟨L1,I1,F1,fz⟩:=fF I hf;refine fin (B1:=⟨B.F0,H1,B.bs,B.w⟩) (G:=(⟨B.F0,H1,B.bs,B.w⟩:Bs).F) I1 L1 rfl (λb h=>h) (.inr λb h=>h) ?_ h;have hx1:∀(ts:List Ty) (a:TV) {x:fE.T ts},lA B.H ts a=some x->(∀j∈ids a,(nth .bu H1 j).st=0)->∀l,fq ts=true->Rl (⟨B.F0,H1,B.bs,B.w⟩:Bs) a l->oU (⟨B.F0,H1,B.bs,B.w⟩:Bs).F B.w ts x l:=by
   intro ts
   induction ts with
   |nil=>
    intro a x h _ l _ hr;cases a<;>first|cases h|skip
    exact hr
   |cons t ts ih=>
    intro a x h fz l hp hr;cases ts with
    |nil=>
     cases a<;>first|cases h|skip
     rename_i p q;cases q<;>first|cases h|skip
     obtain⟨v,r,e,h1,h2⟩:=hr;have h2:r=[]:=h2;subst h2;have hp:(t.pos&&true)=true:=hp;rw[Bool.and_true] at hp;obtain⟨k1,k2⟩:=((du t p h).vK (B:=⟨B.F0,H1,B.bs,B.w⟩) F1).whole I1 (G:=(⟨B.F0,H1,B.bs,B.w⟩:Bs).F) (λb h=>h) hp (λj hj b s hb=>gV I1 (fz j (adM _ hj)) hb) h1.rv;exact⟨v,e,k1,k2⟩
    |cons u r=>
     cases a<;>first|cases h|skip
     rename_i p q;have h:(match tU B.H p t,lA B.H (u::r) q with|some p,some q=>some (p,q)|_,_=>none)=some x:=h;split at h
     ·rename_i y z h1 h2;cases h;obtain⟨v,rest,e,g1,g2⟩:=hr;have hp:(t.pos&&fq (u::r))=true:=hp;rw[adr] at hp;obtain⟨k1,k2⟩:=((du t p h1).vK (B:=⟨B.F0,H1,B.bs,B.w⟩) F1).whole I1 (G:=(⟨B.F0,H1,B.bs,B.w⟩:Bs).F) (λb h=>h) hp.1 (λj hj b s hb=>gV I1 (fz j (adM _ hj)) hb) g1.rv;exact⟨v,rest,e,⟨k1,k2⟩,ih q h2 (λj hj=>fz j (adH _ hj)) rest hp.2 g2⟩
     ·cases h
  exact hx1 F.a a hx fz _ hp (Rl.mono L1 a _ ha)
def jk (P:Program) (call:{ρ:Type}->eZ ρ):Prop:=∀{ρ:Type} {X:Fx} {B:Bs} {s:TS} {f:Nat} {a:TV} {K:TV->TS->R ρ} {y:ρ} {args:Array Value} (n:Nat),bw X B->s.hp=B.H->call f a s K=some y->Rl B a args.toList->Can P f/\CallsIn (Wf none) n P f args B.w (qg X B s.fr K y)
theorem Kt {B:Bs}:∀(x:TV) (a b:List Value) (y:TV),Rl B x a->Rl B y b->Rl B (Q1 x y) (a++b)
 | .un,a,b,y,h,hy=>by
   have h:a=[]:=h;subst h;exact hy
 | .pr x z,a,b,y,⟨v,r,e,h1,h2⟩,hy=>by
   subst e;exact⟨v,r++b,rfl,h1,Kt z r b y h2 hy⟩
 | .bU,_,_,_,h,_| .nI,_,_,_,h,_| .nl,_,_,_,h,_| .v _ _,_,_,_,h,_| .r _,_,_,_,h,_| .rn _ _,_,_,_,h,_| .rs _ _ _,_,_,_,h,_| .p _ _,_,_,_,h,_| .q _ _,_,_,_,h,_| .tp _,_,_,_,h,_| .f _ _ _ _,_,_,_,h,_| .cl _ _,_,_,_,h,_| .nz _,_,_,_,h,_| .sa _ _ _,_,_,_,h,_=>h.elim
theorem zH {B:Bs}:∀(n:Nat) (x:TV) (a b:List Value) (y z:TV),Rl B x a->Rl B y b->u_ n x y=some z->Rl B z (a.take n++b++a.drop n)
 |0,x,a,b,y,z,hx,hy,h=>by
  have h:some (Q1 y x)=some z:=h;cases h;exact Kt y b a x hy hx
 |n+1, .pr x w,a,b,y,z,⟨v,r,e,h1,h2⟩,hy,h=>by
  subst e;have h:(match u_ n w y with|some z=>some (TV.pr x z)|none=>none)=some z:=h;split at h;rotate_left
  ·cases h
  rename_i z1 hz;cases h;exact⟨v,_,rfl,h1,zH n w r b y z1 h2 hy hz⟩
 |n+1, .un,_,_,_,_,_,_,h|n+1, .bU,_,_,_,_,_,_,h|n+1, .nI,_,_,_,_,_,_,h|n+1, .nl,_,_,_,_,_,_,h|n+1, .v _ _,_,_,_,_,_,_,h|n+1, .r _,_,_,_,_,_,_,h|n+1, .rn _ _,_,_,_,_,_,_,h|n+1, .rs _ _ _,_,_,_,_,_,_,h|n+1, .p _ _,_,_,_,_,_,_,h|n+1, .q _ _,_,_,_,_,_,_,h|n+1, .tp _,_,_,_,_,_,_,h|n+1, .f _ _ _ _,_,_,_,_,_,_,h|n+1, .cl _ _,_,_,_,_,_,_,h|n+1, .nz _,_,_,_,_,_,_,h|n+1, .sa _ _ _,_,_,_,_,_,_,h=>by cases h
theorem Uo {ρ:Type} {T:CT} (hd:20<=T.P.depth) {call:{ρ:Type}->eZ ρ} (hc:jk T.P call) {X:Fx} {B:Bs} (I:bw X B) {s:TS} (hH:s.hp=B.H) {o:Oper} {K:TV->TS->R ρ} {y:ρ} (h:tf T call s o.op K=some y) {a:Act} (hO:ja B s o.op a.eval)
 {r:Option Nat} {n:Nat} {Q:Exit->Act->World->Prop} {K':Act->World->Prop} (hK:∀B' tv v,bo B B'->bw X B'->Rv B' tv v->K tv ⟨s.fr,B'.H⟩=some y->K' (a.put o.dst v) B'.w):o.wpIn (Wf r) n T.P a B.w K' Q:=by
 have Yp:∀c,o.op≠ .defer c:=λc e=>by rw[e] at h;cases h
 cases hl:lone o.op with
 |true=>
  rw[HT hl _ (λ_ _ _ _=>none)] at h;cases h1:tf T (λ_ _ _ _=>none) s o.op dA with
  |none=>rw[h1] at h;cases h
  |some p=>
   obtain⟨tv,s'⟩:=p;rw[h1] at h;have h:K tv s'=some y:=h;obtain⟨B',v,nx,e1,L,I',hv,hr,hx⟩:=RX hd hl h1 X B a.eval I hH hO;subst e1;exact xB Yp hr hx (hK B' tv v L I' hv h)
 |false=>
  cases d6:o.op<;>rw[d6] at hl<;>first|cases hl|skip
  rename_i c;have go:∀{f:Nat} {x:Operand} {fs cs:Array Value} {z:TV},c.callee= .value x->a.eval x= .func (.func f) fs cs->Rl B z (fs++c.args.map a.eval++cs).toList->call f z s K=some y->o.wpIn (Wf r) n T.P a B.w K' Q:=by
   intro f x fs cs z a7P hf hz hk;obtain⟨w8,hw⟩:=hc (n-1) I hH hk hz;have e:(execOp a.eval o).run T.P B.w= .ok (.enter f (fs++c.args.map a.eval++cs)) B.w:=by
    have e1:execOp a.eval o=(do let d<-resolve a.eval c o.type;invoke d.target d.args):=by simp only[execOp,d6]
    rw[e1];simp only[resolve,a7P,hf,Deferred.ofValue,Sem.run_bind,Sem.run_pure,invoke];exact rh w8 _ _
   refine⟨λ_ _=>trivial,?_⟩;rw[Oper.semAt_eq _ _ _ Yp,e];refine⟨(λh=>by cases h),?_⟩;have hw:CallsIn (Wf r) (n-1) T.P f (fs++c.args.map a.eval++cs) B.w (qg X B s.fr K y):=hw;refine hw.mono λe w' ⟨v,tv,B',q1,q2,q3,q4,q5,q6⟩=> ?_
   subst q1;subst q2;exact hK B' tv v q3 q4 q5 q6
  have Cm:∀{z:TV},CZ s c.args.toList=some z->c.callee≠ .builtin .len->(∃x,c.callee= .value x)->Rl B z (c.args.map a.eval).toList:=λ{z} hz _ ⟨x,hx⟩=>by
   rw[Array.toList_map];refine AP c.args.toList z hz λu hu=>hO u ?_
   rw[d6];show u∈c.operands.toList;unfold Call.operands;rw[hx];simp[hu]
  rw[d6] at h;unfold tf at h;dsimp only at h;split at h
  ·rename_i b hb;unfold lone at hl;dsimp only at hl;rw[hb] at hl;cases hl
  ·rename_i f hb;split at h;rotate_left
   ·cases h
   rename_i z hz;refine go (fs:= #[]) (cs:= #[]) hb rfl ?_ h;rw[Array.empty_append,Array.append_empty];exact Cm hz (λe=>by rw[hb] at e;cases e) ⟨_,hb⟩
  ·rename_i x _ hb;split at h;rotate_left
   ·cases h
   rename_i f u m k z hx hz;split at h;rotate_left
   ·cases h
   rename_i z' hs;have hv:=hO x (by rw[d6];show x∈c.operands.toList;unfold Call.operands;rw[hb];simp);rw[hx] at hv;obtain⟨_,fs,cs,e1,e2,e3,e4⟩:=d7 rfl rfl hv;refine go hb e1 ?_ h;have Ts:=zH m u (fs.toList++cs.toList) (c.args.map a.eval).toList z z' e4 (Cm hz (λe=>by rw[hb] at e;cases e) ⟨_,hb⟩) hs;have e5:(fs.toList++cs.toList).take m=fs.toList:=by rw[<-e2,<-Array.length_toList,List.take_left'];rfl
   have e6:(fs.toList++cs.toList).drop m=cs.toList:=by rw[<-e2,<-Array.length_toList,List.drop_left'];rfl
   rw[e5,e6] at Ts;rw[Array.toList_append,Array.toList_append];exact Ts
  ·cases h
end
noncomputable section
class pf where
 ds:List Deferred
abbrev pa:pf:=⟨[]⟩
variable [pf]
structure gC (B:Bs) (s:TS) (a:Act) (w:World):Prop where
 H:s.hp=B.H
 w:B.w=w
 n:s.fr.length<=a.tmps.size
 sl:∀t,Rv B (nth .bU s.fr t) (a.tmps.getD t undef)
 df:a.defers=pf.ds
theorem gC.mono {B B':Bs} {s:TS} {a:Act} {w:World} (S:gC B s a w) (L:bo B B'):gC B' ⟨s.fr,B'.H⟩ a B'.w:=⟨rfl,rfl,S.n,λt=>(S.sl t).mono L,S.df⟩
theorem AO {B:Bs} {s:TS} {a:Act} (h:∀t,Rv B (nth .bU s.fr t) (a.tmps.getD t undef)) (x:Operand):Rv B (dn s x) (a.eval x):=by
 cases x with
 |tmp t=>exact h t
 |const v=>exact BX B v
 |func f=>exact dG rfl rfl rfl rfl ⟨#[],#[],rfl,rfl,rfl,rfl⟩
 |global g=>trivial
theorem gC.ops {B:Bs} {s:TS} {a:Act} {w:World} (S:gC B s a w) (op:Op):ja B s op a.eval:=λx _=>AO S.sl x
theorem jR {α:Type} (l:Array α) (d i:Nat) (x y:α):(l.setIfInBounds d x).getD i y=if i=d/\d<l.size then x else l.getD i y:=by
 rw[adD,Array.getElem?_setIfInBounds,adD]
 by_cases h:d=i
 ·subst h
  by_cases h2:d<l.size
  ·rw[adp rfl,adp h2,adp ⟨rfl,h2⟩];rfl
  ·rw[adp rfl,adq h2,adq (λh=>h2 h.2),Array.getElem?_eq_none ade]
 ·rw[adq h,adq (λh2=>h h2.1.symm)]
theorem gC.put {B:Bs} {s:TS} {a:Act} {w:World} (S:gC B s a w) {d:Nat} (hd:d<s.fr.length) {tv:TV} {v:Value} (hv:Rv B tv v):gC B ⟨setAt tv s.fr d,s.hp⟩ (a.put (some d) v) w:=by
 refine⟨S.H,S.w,?_,λt=> ?_,S.df⟩
 ·show(setAt tv s.fr d).length<=(a.tmps.setIfInBounds d v).size;rw[d5,Array.size_setIfInBounds];exact S.n
 ·show Rv B (nth .bU (setAt tv s.fr d) t) ((a.tmps.setIfInBounds d v).getD t undef);rw[cx,jR];have:=S.n
  by_cases e:t=d
  ·rw[adp ⟨e,hd⟩,adp ⟨e,ade⟩];exact hv
  ·rw[adq (λh=>e h.1),adq (λh=>e h.1)];exact S.sl t
theorem HH {B:Bs} {s s':TS} {a:Act} {w:World} (S:gC B s a w) {d:Option Nat} {tv:TV} {v:Value} (hv:Rv B tv v) (h:oQ d tv s=some s'):gC B s' (a.put d v) w:=by
 cases d with
 |none=>
  have h:some s=some s':=h;cases h;exact S
 |some d=>
  obtain⟨h1,h2⟩:=aQ (show(bif Nat.ble (Nat.succ d) s.fr.length then some (⟨setAt tv s.fr d,s.hp⟩:TS) else none)=some s' from h);cases h2;exact S.put (adv h1) hv
theorem AX {T:CT} {X:Fx} {B:Bs} (I:bw X B) {s s':TS} {a:Act} {w:World} (S:gC B s a w) {d:Option Nat} {t:TypeId} {tv:TV} {v:Value} (hv:Rv B tv v) (h:OO T d t tv s=some s'):
 ∃B',bo B B'/\bw X B'/\gC B' s' (a.put d v) w:=by
 by_cases hn:tv= .nl
 ·subst hn;have h:(match nN T.P T.gv t with
   |some (.sl e)=>(bif Nat.ble 1 e.cells then(match own (.sl e) .nl s.hp with|(x,h)=>oQ d x ⟨s.fr,h⟩) else none)
   |_=>none)=some s':=h
  split at h
  ·rename_i e _;obtain⟨hb,h⟩:=aQ h;have h:oQ d (.r s.hp.length) ⟨s.fr,s.hp++[⟨1, .row e (jg e)⟩]⟩=some s':=h;obtain⟨L,I'⟩:=Kq I (adv hb);have S':gC (B.add (.row e (jg e)) none B.w) ⟨s.fr,s.hp++[⟨1, .row e (jg e)⟩]⟩ a w:=by
    have:=S.mono L;refine⟨by show s.hp++_=B.H++_;rw[S.H],S.w,this.n,this.sl,this.df⟩
   rw[S.H] at h;refine⟨_,L,I',HH (by rw[S.H] at S';exact S') ?_ h⟩;obtain⟨h1,h2⟩:=d7 rfl rfl hv;refine mkR (e:=e) (l:=jg e) (by rw[mU];exact show 1≠7 by decide) (by rw[mU]) ?_;rw[r_ I.len];exact⟨by show 0<dU;decide,rfl,_,h2⟩
  ·cases h
 ·have h:oQ d tv s=some s':=by
   cases tv<;>first|exact h|exact absurd rfl hn
  exact⟨B,bo.refl B,I,HH S hv h⟩
theorem gC.assume {B:Bs} {s:TS} {a:Act} {w:World} (S:gC B s a w) {t:Nat} {b:Bool} (h:nth .bU s.fr t= .v .b b):gC B (assume t b s) a w:=by
 refine⟨S.H,S.w,by show(setAt _ s.fr t).length<=_;rw[d5];exact S.n,λi=> ?_,S.df⟩;show Rv B (nth .bU (setAt (.v .b (Jq b)) s.fr t) i) _;rw[cx]
 by_cases e:i=t/\t<s.fr.length
 ·rw[adp e,e.1];have:=S.sl t;rw[h] at this;exact this
 ·rw[adq e];exact S.sl i
def dO (wr:List (Nat×TypeId)) (a a':Act):Prop:=a'.tmps.size=a.tmps.size/\∀t,cH t wr=none->a'.tmps.getD t undef=a.tmps.getD t undef
theorem dO.refl (wr:List (Nat×TypeId)) (a:Act):dO wr a a:=⟨rfl,λ_ _=>rfl⟩
theorem dO.trans {wr:List (Nat×TypeId)} {a b c:Act} (h:dO wr a b) (h':dO wr b c):dO wr a c:=⟨h'.1.trans h.1,λt ht=>(h'.2 t ht).trans (h.2 t ht)⟩
theorem ji {t:Nat}:∀{l m:List (Nat×TypeId)},cH t (l++m)=none↔cH t l=none/\cH t m=none
 |[],m=>⟨λh=>⟨rfl,h⟩,λh=>h.2⟩
 |(d,y)::r,m=>by
  show(bif Nat.beq d t then some y else cH t (r++m))=none↔(bif Nat.beq d t then some y else cH t r)=none/\_;cases Nat.beq d t with
  |true=>exact⟨λh=>(by cases h),λh=>(by cases h.1)⟩
  |false=>exact ji
theorem dO.left {l m:List (Nat×TypeId)} {a a':Act} (h:dO l a a'):dO (l++m) a a':=⟨h.1,λt ht=>h.2 t (ji.1 ht).1⟩
theorem dO.right {l m:List (Nat×TypeId)} {a a':Act} (h:dO m a a'):dO (l++m) a a':=⟨h.1,λt ht=>h.2 t (ji.1 ht).2⟩
theorem dO.put {wr:List (Nat×TypeId)} {a:Act} {d:Option Nat} {v:Value} (h:∀e,d=some e->cH e wr≠none):dO wr a (a.put d v):=by
 cases d with
 |none=>exact dO.refl wr a
 |some d=>
  refine⟨Array.size_setIfInBounds,λt ht=> ?_⟩;show(a.tmps.setIfInBounds d v).getD t undef=_;rw[jR,adq];rintro⟨e,_⟩;exact h d rfl (e▸ht)
theorem yF {t:Array Value} {i:Nat} {b:Bool} (h:t.getD i undef= .bool b):t[i]? =some (.bool b):=by
 rw[adD] at h;cases hx:t[i]? with
 |none=>rw[hx] at h;cases h
 |some v=>rw[hx] at h;exact congrArg some h
theorem Pm {ρ:Type} {B:Bs} {s:TS} {a:Act} {w:World} (S:gC B s a w) {ops:Array Oper} {o:Oper} {go:TS->(TV->TS->R ρ)->R ρ} {put:TV->TS->Option TS} {K:TS->R ρ} {y:ρ} (h:rH ops o s go put K=some y):
 ∃s1,gC B s1 a w/\s1.hp=s.hp/\((Region.wanted o (yielded ops a.tmps)=true/\go s1 (λx s=>match put x s with|some s=>K s|none=>none)=some y)\/
  (Region.wanted o (yielded ops a.tmps)=false/\∃s2,put .nI s1=some s2/\K s2=some y)):=by
 have fin:∀{s1:TS},(match put .nI s1 with|some s=>K s|none=>none)=some y->∃s2,put .nI s1=some s2/\K s2=some y:=λ{s1} h=>by
  split at h
  ·rename_i s2 e;exact⟨s2,e,h⟩
  ·cases h
 unfold rH at h;dsimp only at h;split at h
 ·rename_i hg;exact⟨s,S,rfl, .inl ⟨by unfold Region.wanted;rw[hg],h⟩⟩
 ·rename_i j want hg;split at h
  ·cases h
  ·rename_i t ht;have yld:∀v,a.tmps[t]? =some v->yielded ops a.tmps j=(match v with| .bool b=>some b|_=>none):=λv hv=>by
    unfold yielded;rw[ht,Option.bind_some,hv];cases v<;>rfl
   split at h
   ·rename_i c hc;have hs:=S.sl t;rw[hc] at hs;have hv:=Sk hs;have hy:=yld _ (yF hv);have wan:∀q:Bool,c=q->Region.wanted o (yielded ops a.tmps)=(q==want):=λq e=>by
     unfold Region.wanted;rw[hg,<-e];show(yielded ops a.tmps j==some want)=_;rw[hy];show(some c==some want)=(c==want);cases(c:Bool)<;>cases want<;>rfl
    rcases uD h with⟨e,h⟩|⟨e,h⟩
    ·have e:c=true:=e;refine⟨T.assume t true s,S.assume (by rw[hc,e]),rfl,?_⟩;have w1:=wan true e;cases want with
     |true=>exact .inl ⟨w1,h⟩
     |false=>exact .inr ⟨w1,fin h⟩
    ·have e:c=false:=e;refine⟨T.assume t false s,S.assume (by rw[hc,e]),rfl,?_⟩;have w1:=wan false e;cases want with
     |true=>exact .inr ⟨w1,fin h⟩
     |false=>exact .inl ⟨w1,h⟩
   ·rename_i hc;refine⟨s,S,rfl, .inr ⟨?_,fin h⟩⟩;have hs:=S.sl t;rw[hc] at hs;have hs:a.tmps.getD t undef=undef:=hs;unfold Region.wanted;rw[hg];show(yielded ops a.tmps j==some want)=false;have:yielded ops a.tmps j=none:=by
     cases hx:a.tmps[t]? with
     |none=>unfold yielded;rw[ht,Option.bind_some,hx]
     |some v=>
      rw[yld v hx];rw[adD,hx] at hs;have hs:v=undef:=hs;rw[hs];rfl
    rw[this];rfl
   ·cases h
theorem qD {ρ:Type} {T:CT} (hd:20<=T.P.depth) {call:{ρ:Type}->eZ ρ} (hc:jk T.P call) {X:Fx} {ops:Array Oper} {r:Option Nat} {n:Nat} {Q:Exit->Act->World->Prop} {K:TS->R ρ} {y:ρ} {wr:List (Nat×TypeId)}:∀(l:List Oper) (i:Nat),(∀k o,l[k]? =some o->ops[i+k]? =some o)->(∀o∈l,∀d,o.dst=some d->cH d wr≠none)->∀{B:Bs} {s:TS} {a:Act} {w:World},bw X B->gC B s a w->vU T call ops l s K=some y->
 (∀B' s' a' w',bo B B'->bw X B'->gC B' s' a' w'->dO wr a a'->K s'=some y->Q .normal a' w')->wpOpsIn (Wf r) n T.P ops Q (List.range' i l.length) a w
 |[],i,_,_,B,s,a,w,I,S,h,hK=>hK B s a w (bo.refl B) I S (dO.refl _ _) h
 |o::l,i,hl,hw,B,s,a,w,I,S,h,hK=>by
  have hw':∀o'∈l,∀d,o'.dst=some d->cH d wr≠none:=λo' h=>hw o' (ady _ h)
  have k0:∀v,dO wr a (a.put o.dst v):=λv=>dO.put (hw o adt)
  have h:rH ops o s (λs F=>tf T call s o.op F) (OO T o.dst o.type) (λs=>vU T call ops l s K)=some y:=h;have ho:ops[i]? =some o:=hl 0 o rfl;have rest:∀k o',l[k]? =some o'->ops[i+1+k]? =some o':=λk o' hk=>by
   rw[show i+1+k=i+(k+1) by omega];exact hl (k+1) o' (by simpa using hk)
  rw[adB,List.range'_succ];unfold wpOpsIn;rw[ho];obtain⟨s1,S1,e1,⟨hw,hg⟩|⟨hw,s2,hp,hg⟩⟩:=Pm S h
  ·simp only[hw,adA];have hB:B.w=w:=S1.w;rw[<-hB];refine Uo hd hc I S1.H hg (S1.ops o.op) λB' tv v L I' hv hk=> ?_
   split at hk
   ·rename_i s2 hp;obtain⟨B2,L2,I2,S2⟩:=AX I' (S1.mono L) hv hp;exact qD hd hc l (i+1) rest hw' I2 S2 hk λB3 s3 a3 w3 L3 I3 S3 k3=>hK B3 s3 a3 w3 (L.trans (L2.trans L3)) I3 S3 ((k0 _).trans k3)
   ·cases hk
  ·simp only[hw,ae7,aeb];obtain⟨B2,L2,I2,S2⟩:=AX I S1 (tv:= .nI) (v:=undef) rfl hp;exact⟨λ_ _=>trivial,qD hd hc l (i+1) rest hw' I2 S2 hg λB3 s3 a3 w3 L3 I3 S3 k3=>hK B3 s3 a3 w3 (L2.trans L3) I3 S3 ((k0 _).trans k3)⟩
end
noncomputable section
variable [pf]
def jW (W:List Nat) (e:TE) (i:Nat):TE:=bif fy i W then e else match e.st with|1=>⟨2,e.b⟩|_=>e
theorem yZ (W:List Nat):∀(H:List TE) (i j:Nat),nth .bu (cL W H i) j=if j<H.length then jW W (nth .bu H j) (i+j) else .bu
 |[],i,j=>by rw[adR,adq (adS _)];rfl
 |e::r,i,0=>by rw[adB,adp (Nat.succ_pos _)];rfl
 |e::r,i,j+1=>by
  show nth .bu (cL W r (Nat.succ i)) j=_;rw[yZ W r (Nat.succ i) j,adB]
  by_cases h:j<r.length
  ·rw[adp h,adp (by omega:j+1<r.length+1),show Nat.succ i+j=i+(j+1) by omega];rfl
  ·rw[adq h,adq (by omega:¬j+1<r.length+1)]
theorem lK (W:List Nat):∀(H:List TE) (i:Nat),(cL W H i).length=H.length
 |[],_=>rfl
 |_::r,i=>congrArg (·+1) (lK W r (Nat.succ i))
theorem uP (W:List Nat) (e:TE) (i:Nat):(jW W e i).b=e.b:=by
 unfold jW;cases fy i W with
 |true=>rfl
 |false=>
  show(match e.st with|1=>(⟨2,e.b⟩:TE)|_=>e).b=_;split<;>rfl
theorem dD (W:List Nat) (e:TE) (i:Nat):(jW W e i=e/\(e.st=1->fy i W=true))\/(e.st=1/\jW W e i=⟨2,e.b⟩/\fy i W=false):=by
 unfold jW;cases hm:fy i W with
 |true=>exact .inl ⟨rfl,λ_=>rfl⟩
 |false=>
  show((match e.st with|1=>(⟨2,e.b⟩:TE)|_=>e)=e/\_)\/(_/\(match e.st with|1=>(⟨2,e.b⟩:TE)|_=>e)=_/\_);split
  ·rename_i h;exact .inr ⟨h,rfl,rfl⟩
  ·rename_i h;exact .inl ⟨rfl,λe=>absurd e h⟩
theorem dz {t:Nat}:∀{l:List Nat},fy t l=true↔t∈l
 |[]=>⟨λh=>(by cases h),λh=>(by cases h)⟩
 |a::r=>by
  show(Nat.beq a t||fy t r)=true↔_;rw[aec,dz,adK,Nat.beq_eq];exact⟨λh=>h.imp Eq.symm id,λh=>h.imp Eq.symm id⟩
def Bs.lock (B:Bs) (U:List Nat):Bs:=⟨B.F0,cL U B.H 0,B.bs,B.w⟩
theorem iR {B:Bs} {U:List Nat} (j:Nat):(B.lock U).e j=jW U (B.e j) j:=by
 show nth .bu (cL U B.H 0) j=_;rw[yZ]
 by_cases h:j<B.H.length
 ·rw[adp h,adI];rfl
 ·rw[adq h,show B.e j= .bu from dw _ _ _ ade];unfold jW;cases fy j U<;>rfl
theorem qS {B:Bs} {U:List Nat} {j:Nat}:(B.lock U).own j↔B.own j:=by
 unfold Bs.own;rw[iR];rcases dD U (B.e j) j with⟨e,_⟩|⟨e1,e2,_⟩
 ·rw[e]
 ·rw[e1,e2];exact⟨λ_=> .inl rfl,λ_=> .inr rfl⟩
theorem uQ {B:Bs} {U:List Nat} {j:Nat}:((B.lock U).e j).st<=2↔(B.e j).st<=2:=by
 rw[iR];rcases dD U (B.e j) j with⟨e,_⟩|⟨e1,e2,_⟩
 ·rw[e]
 ·rw[e1,e2];exact⟨λ_=>by decide,λ_=>adw 2⟩
theorem EY {B:Bs} {U:List Nat} {j:Nat}:((B.lock U).e j).st=7↔(B.e j).st=7:=by
 rw[iR];rcases dD U (B.e j) j with⟨e,_⟩|⟨e1,e2,_⟩
 ·rw[e]
 ·rw[e1,e2];exact⟨λh=>absurd h (show¬2=7 by decide),λh=>absurd h (show¬1=7 by decide)⟩
theorem NS {B:Bs} {U:List Nat} {b:Nat}:(B.lock U).F b↔B.F b:=by
 constructor
 ·rintro(h|⟨j,s,h1,h2⟩)
  ·exact .inl h
  ·exact .inr ⟨j,s,qS.1 h1,h2⟩
 ·rintro(h|⟨j,s,h1,h2⟩)
  ·exact .inl h
  ·exact .inr ⟨j,s,qS.2 h1,h2⟩
theorem pK {B:Bs} {U:List Nat}:bo B (B.lock U):=
 ⟨λb cs T fz h1 h2=>⟨λh=>h1 (NS.1 h),fz,h2⟩,λj h=>⟨λe=>h (EY.1 e),rfl,by rw[iR,uP];exact cu _⟩⟩
theorem lg.st {B:Bs} {st st':Nat} {tb:TB} {p:Option (Nat×Nat)} (H:lg B ⟨st,tb⟩ p) (h2:st<=2) (h:st'≠0->st≠0):lg B ⟨st',tb⟩ p:=by
 have L:∀{Q:Array Value->Prop},qh B.w p st Q->qh B.w p st' Q:=λ⟨b,cs,T,fz,g1,g2,g3,g4⟩=>⟨b,cs,T,fz,g1,g2,λk=>g3 (h k),g4⟩
 cases tb with
 |row e l=>exactλ_=>let⟨b1,b2,b3⟩:=H h2;⟨b1,b2,b3.imp id L⟩
 |box t c=>exactλ_=>⟨(H h2).1,(H h2).2.imp (λh=>⟨h.1,L h.2⟩) id⟩
 |any c=>exactλ_=>⟨(H h2).1,L (H h2).2⟩
theorem Bu (e:TE):e=⟨e.st,e.b⟩:=by cases e;rfl
theorem NT {B:Bs} {U:List Nat} {j:Nat} {p:Option (Nat×Nat)} {B':Bs} (H:lg B' (B.e j) p):lg B' ((B.lock U).e j) p:=by
 rw[iR];rcases dD U (B.e j) j with⟨e,_⟩|⟨e1,e2,_⟩
 ·rw[e];exact H
 ·rw[e2];rw[Bu (B.e j),e1] at H;exact H.st (by decide) (λ_=>by decide)
def CD (B:Bs) (U:List Nat) (b:Nat):Prop:=b<B.w.heap.size/\∀j s,j∈U->(B.e j).st=1->B.b j≠some (b,s)
def Xh (B:Bs) (U:List Nat):List (Nat×TE×Option (Nat×Nat)):=(List.range B.H.length).filterMap λj=>if(B.e j).st=1/\j∈U then none else some (j,jW U (B.e j) j,B.b j)
def Fx.tC (X:Fx) (B:Bs) (U:List Nat):Fx:=⟨X.F0,B.w,CD B U,[],Xh B U⟩
theorem CI {B:Bs} {U:List Nat} {x:Nat×TE×Option (Nat×Nat)} (h:x∈Xh B U):x.1<B.H.length/\((B.e x.1).st=1->x.1∉U)/\x.2.1=jW U (B.e x.1) x.1/\x.2.2=B.b x.1/\x.2.1.st≠1:=by
 obtain⟨j,hj,e⟩:=List.mem_filterMap.1 h;have hj:=adL.1 hj;split at e
 ·cases e
 ·rename_i qd;cases e;refine⟨hj,λh1 h2=>qd ⟨h1,h2⟩,rfl,rfl,?_⟩;show(jW U (B.e j) j).st≠1;rcases dD U (B.e j) j with⟨e1,e2⟩|⟨_,e2,_⟩
  ·rw[e1];exactλh=>qd ⟨h,dz.1 (e2 h)⟩
  ·rw[e2];exact show 2≠1 by decide
theorem uO {X X':Fx} {B B':Bs} {U:List Nat} (hX:X'.lk=Xh B U) (I:bw X' B') {j:Nat} (hj:j<B.H.length) (h:j∉U\/(B.e j).st≠1):j<B'.H.length/\B'.e j=jW U (B.e j) j/\B'.b j=B.b j:=by
 have _:=X;obtain⟨k1,k2,k3,_⟩:=I.lk (j,jW U (B.e j) j,B.b j) (by
  rw[hX];refine List.mem_filterMap.2 ⟨j,adL.2 hj,?_⟩;rw[adq (λh'=>h.elim (λk=>k h'.2) (λk=>k h'.1))])
 exact⟨k1,k2,k3⟩
theorem bw.lock {X:Fx} {B:Bs} (I:bw X B) (U:List Nat):bw (X.tC B U) (B.lock U):=by
 have L:=pK (B:=B) (U:=U);refine⟨by show B.bs.length=(cL U B.H 0).length;rw[lK];exact I.len,λj=> ?_,λi j b s s' g1 g3 g4 g5=>I.inj i j b s s' (qS.1 g1) (uQ.1 g3) g4 g5,λj b s g1 g2=> ?_,λj b s g1 g2=>I.fr j b s (uQ.1 g1) g2,λb h=>⟨h.1,rfl⟩,adw _,λb h=>aef (I.xo b h) I.nx,dY.refl _,I.F0,λx hx=>(by cases hx),λx hx=> ?_⟩
 ·have H1:lg (B.lock U) (B.e j) (B.b j):=lg.mono L (λ_ _ _=>rfl) (I.bP j);exact NT H1
 ·rw[iR] at g1;rcases dD U (B.e j) j with⟨e1,e2⟩|⟨_,e2,_⟩
  ·rw[e1] at g1;exactλh=>h.2 j s (dz.1 (e2 g1)) g1 g2
  ·rw[e2] at g1;exact absurd g1 (show¬2=1 by decide)
 ·obtain⟨k1,k2,k3,k4,k5⟩:=CI hx;refine⟨by show x.1<(cL U B.H 0).length;rw[lK];exact k1,?_,k4.symm,k5⟩;rw[iR,k3]
end
end Go.Proofs.YtbjcjppphoppfaaGreat.T
