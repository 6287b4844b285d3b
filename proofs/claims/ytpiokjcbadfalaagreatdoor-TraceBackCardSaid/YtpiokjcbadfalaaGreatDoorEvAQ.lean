import Derived.Test.YtpiokjcbadfalaaGreatDoorEvAO
import Derived.Test.YtpiokjcbadfalaaGreatDoorEvAP
import Derived.KernelRfl
namespace Go.Proofs.YtpiokjcbadfalaaGreatDoor.Ev
variable {P : Program} {F : Fence} {n : Nat}
theorem oJ {fn : Func} {tmps : Array Value} {R : Ending → World → Prop} : ∀ (ds : List Deferred) (w : World) (fr : Frame)
    (cs : List Frame),fr.mode = .returning → fr.defers = ds → fr.tmps = tmps → P.funcs[fr.fn]? = some fn → F.fn fr.fn → F.room (cs.length + 1 + n) → (∀ d ∈ ds,∃ r,d.target = .collected r) → LeavesInM F n P fn tmps R ds .returning w →
    ∃ v w' fr',R (.returned v) w' ∧ StepsIn (Machine.fenced P F) P (lone fr cs w) (lone fr' cs w') ∧ fr'.fn = fr.fn ∧ fr'.kind = fr.kind ∧ fr'.going P w' (.returned v) := by
  intro ds
  induction ds with
  | nil=>
    intro w fr cs hu hd ht hf hb hroom _ h
    obtain ⟨v,hr,hR⟩ := h
    exact ⟨v,w,fr,hR,.refl _,rfl,rfl,hu,hd,fn,hf,by rw [ht]; exact hr⟩
  | cons d ds ih=>
    intro w fr cs hu hd ht hf hb hroom hc h
    obtain ⟨hrun,h⟩ := h
    obtain ⟨r0,hr0⟩ := hc d (List.mem_cons_self ..)
    rcases h with ⟨r,w',htar,htake,hrest⟩ | ⟨hn,fv,cap,f,args,htar,hinv,hlead,hFf,hcall⟩
    · have h1 := step_collected (cs := cs) (hu ▸ hrun) hd htar htake
      have i1 : (lone fr cs w).fenced P F := fenced_out hb hroom (hu ▸ hrun) hd (fun g hg=>by rw [htar] at hg; simp [Target.leads] at hg)
      obtain ⟨v,w'',fr',hR',hs',hfn',hk',hl'⟩ := ih w' { fr with defers := [] ++ ds } cs hu rfl ht hf hb hroom (fun d' hd'=>hc d' (List.mem_cons_of_mem _ hd')) hrest
      exact ⟨v,w'',fr',hR',StepsIn.trans (.one i1 h1) hs',hfn',hk',hl'⟩
    · rw [hr0] at htar
      cases htar
def a6F (F : Fence) (n : Nat) (P : Program) (fn : Func) (R : Ending → World → Prop) : Exit → Act → World → Prop
  | .normal,a,w | .ret,a,w=>(∀ d ∈ a.defers,∃ r,d.target = .collected r) ∧ LeavesInM F n P fn a.tmps R a.defers .returning w
  | .outgrown,_,w=>R .outgrown w
  | _,_,_=>False
theorem od {f : FuncId} {fn : Func} {c : Code} {args : Array Value} {u : FrameMode} {w : World} {R : Ending → World → Prop}
    (hf : P.funcs[f]? = some fn) (hb : fn.body = some c) (hF : F.fn f)
    (h : c.wpIn F n P (a6F F n P fn R) { tmps := args ++ Array.replicate (fn.ntmps - args.size) undef,defers := [] } w) (hro : F.round = none := by rfl) :
    CallsDIn F n P f args u w fun e u' w'=>u' = u ∧ R e w' := by
  refine ⟨hF,fun c₀ cs hu hr=>?_⟩
  let b : Frame := { (default : Frame) with fn := f,kind := .deferred,roundOf := none }
  have henter : Frame.enter P f args .deferred =
      b.atR { tmps := args ++ Array.replicate (fn.ntmps - args.size) undef,defers := [] } [.code c] := by
    simp [Frame.enter,Frame.atR,hf,hb,b]
  have hc : ({ c₀ with mode := u } : Frame) = c₀ := by subst hu; rfl
  obtain ⟨e,a',w',hq,harr⟩ := h b [] (c₀ :: cs) hro.symm hF hr
  rw [← henter] at harr
  cases e with
  | normal=>
    obtain ⟨v,w'',fr',hR,hs,hfn,hk,hl⟩ := oJ a'.defers w' { b.atR a' [] with mode := .returning } (c₀ :: cs) rfl rfl rfl hf hF hr hq.1 hq.2
    exact ⟨.returned v,u,w'',fr',⟨rfl,hR⟩,(by rw [hc]; exact StepsIn.trans (StepsIn.trans harr (.one (fenced_calm (fr := b.atR a' []) hF hr rfl) (stepR_end rfl))) hs),hk,hfn,hl⟩
  | ret=>
    obtain ⟨todo,hs₀⟩ := harr.1 rfl
    obtain ⟨v,w'',fr',hR,hs,hfn,hk,hl⟩ := oJ a'.defers w' { b.atR a' todo with mode := .returning } (c₀ :: cs) rfl rfl rfl hf hF hr hq.1 hq.2
    exact ⟨.returned v,u,w'',fr',⟨rfl,hR⟩,(by rw [hc]; exact StepsIn.trans hs₀ hs),hk,hfn,hl⟩
  | panic chain=>exact hq.elim
  | exit id=>exact hq.elim
  | goto l=>exact hq.elim
  | outgrown=>exact ⟨.outgrown,u,w',b,⟨rfl,hq⟩,harr.resolve_left (by simp [b]),rfl,rfl,trivial⟩
end Go.Proofs.YtpiokjcbadfalaaGreatDoor.Ev
namespace Go.Proofs.YtpiokjcbadfalaaGreatDoor.Ev
theorem nL {s0 : kN} {h : Hp} {μ : Mu} {F : Nat → Prop} {w : World} : ∀ {ds : List Deferred},jj s0 h μ F w ds → ∀ d ∈ ds,∃ r,d.target = .collected r
  | [],_,_,hd=>(by cases hd)
  | d :: ds,⟨⟨r,h1,_⟩,hr⟩,d',hd=>by
    rcases List.mem_cons.1 hd with rfl | hd
    · exact ⟨r,h1⟩
    · exact nL hr d' hd
def a2g (V : Env) (f : FuncId) (G : aF) : Prop := ∀ (l : Row) (hp : Hp) (R : ab),G.f l hp = R → R ≠ .fail → Can V.P f ∧ ∃ v hp',R = .val v hp' ∧
  ∀ (w : World) (μ : Mu) (F : Nat → Prop) (args : Array Value) (n : Nat) (u : FrameMode),aN V μ F hp w → kM w F μ l args → CallsDIn (Wf none) n V.P f args u w fun e u' w'=>u' = u ∧ ∃ x,e = .returned x ∧ ∃ μ' F',ai w' F' μ' v x ∧ aN V μ' F' hp' w' ∧ fV μ F hp w μ' F' hp' w'
theorem aej {C : Cx} {vs : Vs} (X : a0C C vs) (hname : ∀ fn,C.P.funcs[C.self]? = some fn → (fn.name == "runtime.NumGoroutine") = false)
    (hrf : ∀ fn c n,C.P.funcs[C.self]? = some fn → fn.body = some c → (dV c).length ≤ 1 → ∀ x ∈ dV c,bw C vs none n (.rangeFunc x.1 x.2.1 x.2.2.1 x.2.2.2)) : a2g (C.env vs) C.self (aV C) := by
  intro l hp R h hR
  unfold aV at h
  split at h
  · exact ah hR h
  · rename_i fn hfn
    rw [gr,Array.getElem?_toList] at hfn
    split at h
    · exact ah hR h
    · rename_i c hbody
      have h0 : (Bool.rec (motive := fun _=>aF) ju (Bool.rec (motive := fun _=>aF) ju ⟨fun l hp=>au (Nat.beq (a4E l) (fn.params.size + fn.nfree)) (rL 0 l (blank C.vars.length) fun fr=>
        ab.rec (motive := fun _=>ab) (fun fr hp=>ou C fn.results.toList fr hp) (fun _ _ _=>.fail) (fun fr hp=>ou C fn.results.toList fr hp) (fun _ _=>.fail) .fail (((den C c).run .e (fun _=>pG) [] qf).run .lf fr hp))⟩ (fH (fn.params.size + fn.nfree) C.vars)) (aY (rK c) (Nat.ble C.nt fn.ntmps)) : aF).f l hp = R := h
      cases hnt : aY (rK c) (Nat.ble C.nt fn.ntmps) with
      | false=>rw [hnt] at h0; exact ah hR h0
      | true=>
        rw [hnt] at h0
        rw [b9,bn] at hnt
        obtain ⟨hfew,hnt⟩ := hnt
        cases hhv : fH (fn.params.size + fn.nfree) C.vars with
        | false=>rw [hhv] at h0; exact ah hR h0
        | true=>
          rw [hhv] at h0
          have hvars := mQ hhv
          obtain ⟨hlen,h1⟩ := an hR h0
          rw [aC,vI] at hlen
          obtain ⟨fr0,h2,hfr⟩ := pA hR h1
          generalize hRb : ((den C c).run .e (fun _=>pG) [] qf).run .lf fr0 hp = Rb at h2
          have hRb0 : Rb ≠ .fail := fun e=>by rw [e] at h2; exact hR h2.symm
          refine ⟨⟨fn,hfn,by rw [hbody]; rfl,hname fn hfn⟩, ?_⟩
          have hend : ∃ fr' hp',(Rb = .ok fr' hp' ∨ Rb = .ret fr' hp') ∧ ou C fn.results.toList fr' hp' = R := by
            cases Rb with
            | ok fr' hp'=>exact ⟨fr',hp',.inl rfl,h2⟩
            | ret fr' hp'=>exact ⟨fr',hp',.inr rfl,h2⟩
            | _=>exact ah hR h2
          obtain ⟨fr',hp',hor,h3⟩ := hend
          obtain ⟨v,h4,H⟩ := wB (vs := vs) X.ok hR h3
          refine ⟨v,hp',h4,fun w μ F args n u hH ha=>?_⟩
          refine od (c := c) (R := fun e w'=>∃ x,e = .returned x ∧ ∃ μ' F',ai w' F' μ' v x ∧ aN (C.env vs) μ' F' hp' w' ∧ fV μ F hp w μ' F' hp' w') hfn hbody trivial ?_ rfl
          have hSt : St C (C.env vs) (.of w.heap.size) .e .lf fr0 hp μ F { tmps := args ++ Array.replicate (fn.ntmps - args.size) undef,defers := [] } w := by
            refine ⟨fm.e,fun t=>?_,hH, ?_,⟨[],rfl,trivial⟩⟩
            · show ai w F μ (sv 0 (look C .e t) .lf fr0) _
              have e : look C .e t = idxOf t C.vars 0 := rfl
              rw [e]
              rcases jH (l := C.vars) (t := t) (i := 0) with ⟨j,hj⟩ | hj
              · rw [hj]
                show ai w F μ (fr0.at j) _
                rw [hfr j]
                by_cases hjl : 0 ≤ j ∧ j < 0 + len l
                · rw [if_pos hjl,Nat.sub_zero]
                  have ht : t = j := jU hj (hvars j (by omega))
                  subst ht
                  have hlt : t < args.size := by have := ha.1; omega
                  have : (args ++ Array.replicate (fn.ntmps - args.size) undef).getD t undef = args[t] := by
                    rw [Array.getD_eq_getD_getElem?,Array.getElem?_append_left hlt,Array.getElem?_eq_getElem hlt]; rfl
                  rw [this]
                  exact ha.2 t _ (Array.getElem?_eq_getElem hlt)
                · rw [if_neg hjl,rv]; exact .uu _
              · rw [hj]; exact .uu _
            · show C.nt ≤ (args ++ Array.replicate (fn.ntmps - args.size) undef).size
              simp only [Array.size_append,Array.size_replicate]
              omega
          have fin : ∀ (fr2 : Fr) (hp2 : Hp) (a' : Act) (w' : World),(Rb = .ok fr2 hp2 ∨ Rb = .ret fr2 hp2) → At C vs (.of w.heap.size) μ F hp w .e .lf fr2 hp2 a' w' →
              (∀ d ∈ a'.defers,∃ r,d.target = .collected r) ∧ LeavesInM (Wf none) n C.P fn a'.tmps (fun e w'=>∃ x,e = .returned x ∧ ∃ μ' F',ai w' F' μ' v x ∧ aN (C.env vs) μ' F' hp' w' ∧ fV μ F hp w μ' F' hp' w') a'.defers .returning w' := fun fr2 hp2 a' w' hor2 ⟨μ',F',S',E'⟩=>by
            have hsame : fr2 = fr' ∧ hp2 = hp' := by
              rcases hor with e | e <;> rcases hor2 with e2 | e2 <;> rw [e] at e2 <;> cases e2 <;> exact ⟨rfl,rfl⟩
            obtain ⟨rfl,rfl⟩ := hsame
            obtain ⟨ms,hms,hmk⟩ := S'.df
            refine ⟨fun d hd=>nL hmk d ((List.mem_append.1 (hms ▸ hd)).elim id fun h=>absurd (show d ∈ ([] : List Deferred) from h) (by simp)), ?_⟩
            rw [hms]
            refine jK (V := C.env vs) (s0 := .of w.heap.size) (μ := μ') (F := F') (hp := hp2) (μ0 := μ) (F0 := F) (h0 := hp) (w0 := w) (wI := w') (fun w2 H2 E2 hI=>?_) (Nat.le_refl _) ms w' S'.h E' (fun _ _=>rfl) hmk
            obtain ⟨x,q1,q2⟩ := H (fn := fn) (tmps := a'.tmps) rfl H2 fun t=>(S'.sl t).mono hI (fun _ h=>h) (fun _ _ h=>h)
            exact ⟨x,q1,x,rfl,μ',F',q2,H2,E2⟩
          refine (a5s X c (hrf fn c n hfn hbody (zG hfew))).1 (s0 := .of w.heap.size) hRb0 hRb ⟨μ,F,hSt,fV.refl _ _ _ _⟩ (fun g2 sk2 fr2 hp2 a' w' e S'=>fin fr2 hp2 a' w' (.inl e.symm) S'.drop) (fun id fr2 hp2 a' w' e _=>absurd e.symm (by exact fun q=>hRb0 q)) (fun l fr2 hp2 a' w' e _=>absurd e.symm (by exact fun q=>hRb0 q)) (fun fr2 hp2 a' w' e S'=>fin fr2 hp2 a' w' (.inr e.symm) S')
theorem ajk {C : Cx} {vs : Vs} (X : a0C C vs) (hname : qG C = true) (hv : xU C = true) : a2g (C.env vs) C.self (aV C) := by
  refine aej X (fun fn hf=>?_) fun fn c n hf hc hlen z hz=>?_
  · unfold qG at hname
    have e : nP C.P.funcs.toList C.self = some fn := by rw [gr,Array.getElem?_toList]; exact hf
    rw [e] at hname
    simpa using hname
  · unfold xU at hv
    have e : nP C.P.funcs.toList C.self = some fn := by rw [gr,Array.getElem?_toList]; exact hf
    rw [e] at hv
    simp only [hc] at hv
    rw [oN hv] at hz
    cases hz
end Go.Proofs.YtpiokjcbadfalaaGreatDoor.Ev
namespace Go.Proofs.YtpiokjcbadfalaaGreatDoor.Ev
theorem a5v {V : Env} {R : ab} (hR : R ≠ .fail) {f : FuncId} {G : aF} (hG : a2g V f G) {a : Row} {hp : Hp} {k : AV → Hp → ab} (h : dB G a hp k = R) : Can V.P f ∧ ∃ v hp',k v hp' = R ∧
    ∀ (w : World) (μ : Mu) (F : Nat → Prop) (args : Array Value) (n : Nat) (u : FrameMode),aN V μ F hp w → kM w F μ a args → CallsDIn (Wf none) n V.P f args u w fun e u' w'=>u' = u ∧ ∃ x,e = .returned x ∧ ∃ μ' F',ai w' F' μ' v x ∧ aN V μ' F' hp' w' ∧ fV μ F hp w μ' F' hp' w' := by
  cases hb : G.f a hp with
  | val v h1=>
    have h' : Hp.rec (motive := fun _=>ab) (fun t nx _ _=>Hp.rec (motive := fun _=>ab) (fun _ _ pr rb=>k v ⟨t,nx,pr,rb⟩) hp) h1 = R := by
      unfold dB at h
      rw [hb] at h; exact h
    obtain ⟨hcan,v',hp',e,H⟩ := hG a hp _ hb (by simp)
    injection e with ev eh
    subst ev; subst eh
    refine ⟨hcan,v,⟨h1.t,h1.nx,hp.pr,hp.rb⟩,h',fun w μ F args n u hH ha=>(H w μ F args n u hH ha).mono fun e u' w' ⟨e0,x,e1,μ',F',hv1,h2,h3⟩=>⟨e0,x,e1,μ',F',hv1,⟨h2.bq,h2.jo,h2.kR,h2.nC,h2.rO⟩, ?_,h3.ids⟩⟩
    have E := h3.ext
    have hpr : h1.pr = hp.pr := E.pr
    exact ⟨E.mu,E.fr,E.size,E.keep,fun B ⟨b,m,o1,o2,o3,o4⟩=>E.own B ⟨b,m,o1,fun hm=>o2 (show b ∈ hp.pr from hpr ▸ hm),o3,o4⟩,E.wb,E.pR,E.lV,E.nx,rfl,rfl,E.io⟩
  | _=>unfold dB at h; rw [hb] at h; exact ah hR h
section
variable {C : Cx} {vs : Vs}
theorem aji {G : aF} {gN : FuncId} (X : a0C C vs) (hname : qG C = true) (hG : a2g (C.env vs) gN G) (hq : ∀ q,(nP C.P.funcs.toList C.self).bind (fun fn=>fn.body.bind y7) = some q → q.g = gN) : ao (C.env vs) C.self (fnSE C G) := by
  intro l hp R h hR
  unfold fnSE at h
  split at h
  · exact ah hR h
  rename_i fn hfn0
  split at h
  · exact ah hR h
  rename_i c hbody
  split at h
  · exact ah hR h
  rename_i q hq0
  have hgn : q.g = gN := hq q (by rw [hfn0]; show fn.body.bind y7 = some q; rw [hbody]; exact hq0)
  have hname' : (fn.name == "runtime.NumGoroutine") = false := by
    unfold qG at hname
    rw [hfn0] at hname
    simpa using hname
  have hfn := hfn0
  rw [gr,Array.getElem?_toList] at hfn
  obtain ⟨hc,m0,m1,m2,m3,m4,m5⟩ := a8k hq0
  have h0 : (Bool.rec (motive := fun _=>aF) ju (Bool.rec (motive := fun _=>aF) ju ⟨fun l hp=>au (Nat.beq (a4E l) (fn.params.size + fn.nfree)) (rL 0 l (blank C.vars.length) fun fr=>a9P ((jm C q.a q.a.toList .e (fun g=>midE C G fn.results.toList q g)).run .lf fr hp))⟩ (fH (fn.params.size + fn.nfree) C.vars)) (aY (okD q) (aY (yW q.rest) (Nat.ble C.nt fn.ntmps))) : aF).f l hp = R := h
  cases hnt : aY (okD q) (aY (yW q.rest) (Nat.ble C.nt fn.ntmps)) with
  | false=>rw [hnt] at h0; exact ah hR h0
  | true=>
    rw [hnt] at h0
    rw [b9,b9,bn] at hnt
    obtain ⟨hok,hrr,hnt⟩ := hnt
    unfold okD at hok
    rw [b9,b9,aC,aC,aC] at hok
    obtain ⟨hfs,has,htt⟩ := hok
    have hrr := oN hrr
    cases hhv : fH (fn.params.size + fn.nfree) C.vars with
    | false=>rw [hhv] at h0; exact ah hR h0
    | true=>
      rw [hhv] at h0
      have hvars := mQ hhv
      obtain ⟨hlen,h1⟩ := an hR h0
      rw [aC,vI] at hlen
      obtain ⟨fr0,h2,hfr⟩ := pA hR h1
      refine ⟨⟨fn,hfn,by rw [hbody]; rfl,hname'⟩, ?_⟩
      obtain ⟨v,hp',h3,hRv⟩ : ∃ v hp',(jm C q.a q.a.toList .e (fun g=>midE C G fn.results.toList q g)).run .lf fr0 hp = .val v hp' ∧ R = .val v hp' := by
        generalize (jm C q.a q.a.toList .e (fun g=>midE C G fn.results.toList q g)).run .lf fr0 hp = X0 at h2
        cases X0 with
        | val v hp'=>exact ⟨v,hp',rfl,h2.symm⟩
        | _=>exact ah hR h2
      clear h2
      subst hRv
      refine ⟨v,hp',rfl,fun w μ F args n hH ha=>?_⟩
      refine callsIn_of_wp_marks (c := c) hfn hbody trivial ?_ rfl
      rw [hc]
      have hSt : St C (C.env vs) (.of w.heap.size) .e .lf fr0 hp μ F { tmps := args ++ Array.replicate (fn.ntmps - args.size) undef,defers := [] } w := by
        refine ⟨fm.e,fun t=>?_,hH, ?_,⟨[],rfl,trivial⟩⟩
        · show ai w F μ (sv 0 (look C .e t) .lf fr0) _
          have e : look C .e t = idxOf t C.vars 0 := rfl
          rw [e]
          rcases jH (l := C.vars) (t := t) (i := 0) with ⟨j,hj⟩ | hj
          · rw [hj]
            show ai w F μ (fr0.at j) _
            rw [hfr j]
            by_cases hjl : 0 ≤ j ∧ j < 0 + len l
            · rw [if_pos hjl,Nat.sub_zero]
              have ht : t = j := jU hj (hvars j (by omega))
              subst ht
              have hlt : t < args.size := by have := ha.1; omega
              have : (args ++ Array.replicate (fn.ntmps - args.size) undef).getD t undef = args[t] := by
                rw [Array.getD_eq_getD_getElem?,Array.getElem?_append_left hlt,Array.getElem?_eq_getElem hlt]; rfl
              rw [this]
              exact ha.2 t _ (Array.getElem?_eq_getElem hlt)
            · rw [if_neg hjl,rv]; exact .uu _
          · rw [hj]; exact .uu _
        · show C.nt ≤ (args ++ Array.replicate (fn.ntmps - args.size) undef).size
          simp only [Array.size_append,Array.size_replicate]
          omega
      refine wpIn_seq (wpIn_region ?_)
      rw [List.range_eq_range',show q.a.size = q.a.toList.length by simp]
      refine tE X.ok hR X.calls X.gl q.a.toList 0 (fun j o hj=>by rw [Nat.zero_add,← Array.getElem?_toList]; exact hj) h3 hSt fun g1 sk1 fr1 hp1 μ1 F1 a1 w1 e1 T1 E1 hdf1=>?_
      obtain ⟨hns,e2⟩ := cE hR e1
      obtain ⟨hlook,hlt⟩ := a7S hns
      obtain ⟨u,e3,hlu,hnu⟩ := a0H hR (l := q.uZ.toList) (k := fun u=>a97 C G fn.results.toList u (((den C q.rest).run g1 (fun _=>pG) [] qf).run sk1 fr1 hp1)) e2
      generalize hRb : ((den C q.rest).run g1 (fun _=>pG) [] qf).run sk1 fr1 hp1 = Rb at e3
      have hRb0 : Rb ≠ .fail := fun e=>by rw [e] at e3; exact hR e3.symm
      obtain ⟨fr',hp2,hor,e4⟩ : ∃ fr' hp2,(Rb = .ok fr' hp2 ∨ Rb = .ret fr' hp2) ∧ finE C G fn.results.toList u fr' hp2 = .val v hp' := by
        cases Rb with
        | ok fr' hp2=>exact ⟨fr',hp2,.inl rfl,e3⟩
        | ret fr' hp2=>exact ⟨fr',hp2,.inr rfl,e3⟩
        | _=>exact ah hR e3
      obtain ⟨hcan,vd,hpd,e5,hdf⟩ := a5v hR hG e4
      obtain ⟨v2,e6,H⟩ := wB (vs := vs) X.ok hR e5
      cases e6
      have hfs' : q.fs = #[] := Array.eq_empty_of_size_eq_zero hfs
      have has' : q.as = #[] := Array.eq_empty_of_size_eq_zero has
      have hO : ∀ {a : Act} {w : World} {F : Nat → Prop} {μ : Mu},(C.env vs).Glo w F → (∀ t,ai w F μ (sig C g1 sk1 fr1 t) (a.tmps.getD t undef)) → ∀ i x,q.uZ.toList[i]? = some x → ai w F μ (nth u i) (a.eval x) := fun hg hs i x hx=>by
        rw [hnu i x hx]; exact tV X.gl hg x fun t _=>hs t
      let fv : Value := .func (.func q.g) #[] (q.uZ.map a1.eval)
      let dd : Deferred := { target := .fn (.func q.g) (q.uZ.map a1.eval),args := #[] }
      refine wpIn_seq (wpIn_region ?_)
      show wpOpsIn (Wf none) n C.P #[q.o0,q.o1] _ [0,1] a1 w1
      rw [wpOpsIn_cons,wpOpIn]
      show (if Region.wanted q.o0 (yielded #[q.o0,q.o1] a1.tmps) then _ else _)
      have hw0 : Region.wanted q.o0 (yielded #[q.o0,q.o1] a1.tmps) = true := by simp [Region.wanted,m2]
      rw [if_pos hw0]
      refine ji (V := C.env vs) (w' := w1) (x := fv) (nx := .value fv) (fun c hx=>by have hx' : q.o0.op = _ := hx; rw [m0] at hx'; cases hx') ?_ (.inl rfl) ?_
      · show (execOp a1.eval q.o0).run C.P w1 = _
        simp only [execOp,m0,hfs']
        rw [show (#[] : Array Operand).map a1.eval = #[] from by simp]
        rfl
      rw [wpOpsIn_cons,wpOpIn]
      show (if Region.wanted q.o1 (yielded #[q.o0,q.o1] (a1.put q.o0.dst fv).tmps) then _ else _)
      have hw1 : Region.wanted q.o1 (yielded #[q.o0,q.o1] (a1.put q.o0.dst fv).tmps) = true := by simp [Region.wanted,m5]
      rw [if_pos hw1]
      refine ⟨fun _ _=>trivial, ?_⟩
      have hev : (a1.put q.o0.dst fv).eval (.tmp q.t') = fv := by
        rw [m1,← htt]
        have : q.t < a1.tmps.size := Nat.lt_of_lt_of_le hlt T1.nt
        simp [Act.put,Act.eval,this]
      have hsem : (q.o1.semAt none (a1.put q.o0.dst fv).eval).run C.P w1 = .ok (.defer dd) w1 := by
        rw [Oper.semAt_none]
        simp only [execOp,m3,resolve,has',hev,Deferred.ofValue,Sem.run_bind,Sem.run_pure]
        simp [fv,dd,Result.andThen]
      show q.o1.uponIn (Wf none) n C.P _ _ _ ((q.o1.semAt none (a1.put q.o0.dst fv).eval).run C.P w1)
      rw [hsem]
      let s0 : kN := ⟨w1.heap.size,[dd],fun d hd r e=>by
        rw [List.mem_singleton] at hd
        subst hd
        cases e⟩
      let a2 : Act := { a1.put q.o0.dst fv with defers := dd :: (a1.put q.o0.dst fv).defers }.put q.o1.dst undef
      show q.rest.wpIn (Wf none) n C.P _ a2 w1
      have ha2 : a2.defers = [dd] := by
        show ({ a1.put q.o0.dst fv with defers := dd :: (a1.put q.o0.dst fv).defers }.put q.o1.dst undef).defers = _
        rw [(fi _ _ _).2]
        show dd :: (a1.put q.o0.dst fv).defers = _
        rw [(fi _ _ _).2,hdf1]
      have ht2 : a2.tmps = (a1.put q.o0.dst fv).tmps := by
        show ({ a1.put q.o0.dst fv with defers := dd :: (a1.put q.o0.dst fv).defers }.put q.o1.dst undef).tmps = _
        rw [m4]; rfl
      have hsl2 : ∀ t,ai w1 F1 μ1 (sig C g1 sk1 fr1 t) (a2.tmps.getD t undef) := fun t=>by
        rw [ht2,m1]
        by_cases e : t = q.t
        · subst e
          have : sig C g1 sk1 fr1 q.t = .uu := by show sv g1.d (look C g1 q.t) sk1 fr1 = _; rw [hlook]; rfl
          rw [this]; exact .uu _
        · have : (a1.put (some q.t) fv).tmps.getD t undef = a1.tmps.getD t undef := by
            simp only [Act.put,Array.getD_eq_getD_getElem?,Array.getElem?_setIfInBounds,if_neg (Ne.symm e)]
          rw [this]; exact T1.sl t
      have St2 : St C (C.env vs) (s0.at w1.heap.size) g1 sk1 fr1 hp1 μ1 F1 a2 w1 := ⟨T1.gi,hsl2,T1.h,by rw [ht2,(fi _ _ _).1]; exact T1.nt,⟨[],by rw [ha2]; rfl,trivial⟩⟩
      have hcr : ∀ i x,q.uZ.toList[i]? = some x → ai w1 F1 μ1 (nth u i) (a1.eval x) := hO T1.h.rO T1.sl
      have fin : ∀ (fr2 : Fr) (hp3 : Hp) (a' : Act) (w' : World),(Rb = .ok fr2 hp3 ∨ Rb = .ret fr2 hp3) → At C vs s0 μ1 F1 hp1 w1 .e .lf fr2 hp3 a' w' →
          LeavesInM (Wf none) n C.P fn a'.tmps (fun e w'=>∃ x,e = .returned x ∧ ∃ μ' F',ai w' F' μ' v x ∧ aN (C.env vs) μ' F' hp' w' ∧ fV μ F hp w μ' F' hp' w') a'.defers .returning w' := fun fr2 hp3 a' w' hor2 ⟨μ',F',S',E'⟩=>by
        have hsame : fr2 = fr' ∧ hp3 = hp2 := by
          rcases hor with e | e <;> rcases hor2 with e2 | e2 <;> rw [e] at e2 <;> cases e2 <;> exact ⟨rfl,rfl⟩
        obtain ⟨rfl,rfl⟩ := hsame
        obtain ⟨ms,hms,hmk⟩ := S'.df
        rw [hms]
        refine jK (V := C.env vs) (s0 := s0) (μ := μ') (F := F') (hp := hp3) (μ0 := μ1) (F0 := F1) (h0 := hp1) (w0 := w1) (wI := w') (fun w2 H2 E2 hI=>?_) (Nat.le_refl _) ms w' S'.h E' (fun _ _=>rfl) hmk
        have ha0 : kM w2 F' μ' u (q.uZ.map a1.eval) := by
          refine ⟨by rw [Array.size_map,hlu,Array.length_toList],fun i y hy=>?_⟩
          rw [Array.getElem?_map] at hy
          obtain ⟨x,hx,rfl⟩ := Option.map_eq_some_iff.1 hy
          exact (hcr i x (by rw [Array.getElem?_toList]; exact hx)).extC T1.h E2
        refine ⟨by simp,.inr ⟨(fun h=>by cases h),_,_,q.g,_,rfl, ?_,fun _ _=>trivial,CallsDIn.mono (hgn ▸ hdf w2 μ' F' _ (n - 1) .returning H2 ha0) ?_⟩⟩
        · show (callFunc q.g (#[] ++ q.uZ.map a1.eval)).run C.P w2 = .ok (.enter q.g (q.uZ.map a1.eval)) w2
          rw [Array.empty_append]
          exact jN (hgn ▸ hcan) _ w2
        · rintro e u' w3 ⟨rfl,xd,rfl,μ3,F3,_,H3,E3⟩
          obtain ⟨x,q1,q2⟩ := H (fn := fn) (tmps := a'.tmps) rfl H3 fun t=>((S'.sl t).mono hI (fun _ h=>h) (fun _ _ h=>h)).extC H2 E3
          exact ⟨x,q1,x,rfl,μ3,F3,q2,H3,(E1.trans E2).trans E3⟩
      refine (a5s X q.rest (by rw [hrr]; exact fun z hz=>(by cases hz))).1 (s0 := s0) hRb0 hRb ⟨μ1,F1,St2,fV.refl _ _ _ _⟩ (fun g2 sk2 fr2 hp3 a' w' e S'=>fin fr2 hp3 a' w' (.inl e.symm) S'.drop) (fun id fr2 hp3 a' w' e _=>absurd e.symm (by exact fun q=>hRb0 q)) (fun l fr2 hp3 a' w' e _=>absurd e.symm (by exact fun q=>hRb0 q)) (fun fr2 hp3 a' w' e S'=>fin fr2 hp3 a' w' (.inr e.symm) S')
end
def eH (c : UInt8) : Bool := Nat.beq c.toNat 45 || (Nat.ble 48 c.toNat && Nat.ble c.toNat 57)
noncomputable def bK (l : List UInt8) : Nat := List.rec (motive := fun _=>Nat) 0 (fun c _ ih=>Bool.rec (motive := fun _=>Nat) 0 (Nat.succ ih) (eH c)) l
noncomputable def ixN (l : List UInt8) : Int := Bool.rec (motive := fun _=>Int) (bK l : Int) (-1) (Nat.beq (bK l) l.length)
noncomputable section
def ixfF (clo : Nat) : aF := ⟨fun l hp=>nN l fun a r=>nN r fun f r=>a2S r (a.eE fun s n=>f.onX fun g _ c x y=>au (Nat.beq g 3) (au (Nat.beq c clo) (au (Nat.beq x 0) (au (Nat.beq y 0) (au (Nat.ble n 4294967280) (.val (I (ixN (yj n s))) hp))))))⟩
def aO (c : UInt8) (l : List UInt8) : List (List UInt8) := List.rec (motive := fun _=>List (List UInt8)) [[]] (fun b _ ih=>Bool.rec (motive := fun _=>List (List UInt8)) (List.rec (motive := fun _=>List (List UInt8)) [[b]] (fun p r _=>(b :: p) :: r) ih) ([] :: ih) (Nat.beq b.toNat c.toNat)) l
def y8 : aF := ⟨fun l hp=>nN l fun a r=>nN r fun b r=>a2S r (a.eE fun s n=>b.eE fun t m=>au (Nat.beq m 1) (au (Nat.ble n 4294967280) (
  let ps := aO t.toUInt8 (yj n s)
  (nR mem 1 ps.length).f (aA (ps.map S)) .lf 0 fun t=>(br mem).f hp (.row true true 1 ps.length t) fun id hp=>.val (.ms id 0 ps.length 1) hp)))⟩
end
noncomputable section
def ahu (G : aF) : aF := ⟨fun l hp=>nN l fun _ r=>nN r fun b _=>b.eE fun _ m=>Bool.rec (motive := fun _=>ab) (G.f l hp) (y8.f l hp) (Nat.beq m 1)⟩
end
noncomputable section
def oZ (o : Option AV) : Option (List UInt8 × Nat) := match o with
  | some (.bu (.nd (.str s n) _ (.nd (.int i c) _ .lf)) _)=>if i = 3 ∧ c ≤ 1000 ∧ n ≤ 1000000 then some (yj n s,c) else none
  | _=>none
def sOf (o : Option AV) : Option (List UInt8) := match o with
  | some (.str s n)=>if n ≤ 1000000 then some (yj n s) else none
  | _=>none
def bOf (o : Option AV) : Option Bool := match o with
  | some (.bool b)=>some b
  | _=>none
def th (v : AV) : Bool := match v with
  | .vs .. => true
  | .x g .. => decide (g = 6 ∨ g = 8)
  | _=>false
def a4a (v : AV) : Bool := match v with
  | .agg (.nd a _ (.nd b _ (.nd c _ .lf))) n=>decide (n = 3) && th a && th b && th c
  | _=>false
def mkF (v : AV) : Bool := match v with
  | .agg (.nd (.int i0 _) _ (.nd (.int i1 _) _ (.nd (.int i2 _) _ (.nd (.int i3 _) _ (.nd (.int i4 _) _ (.nd (.int i5 _) _ (.nd (.int i6 _) _ .lf))))))) n=>decide (n = 7 ∧ i0 = 3 ∧ i1 = 3 ∧ i2 = 3 ∧ i3 = 3 ∧ i4 = 4 ∧ i5 = 3 ∧ i6 = 4)
  | _=>false
def uz (v : AV) : Option (AV × AV × AV) := match v with
  | .agg (.nd (.int i0 a) _ (.nd (.int i1 b) _ (.nd (.int i2 c) _ .lf))) n=>if n = 3 ∧ i0 = 4 ∧ i1 = 3 ∧ i2 = 3 then some (.int 4 a,.int 3 b,.int 3 c) else none
  | _=>none
def iN (v : AV) : Option (Row × Nat × Nat) := match v with
  | .vs t o n z=>if z = 7 then some (t,o,n) else none
  | .x g .. => if g = 6 ∨ g = 8 then some (.lf,0,0) else none
  | _=>none
def a14 (word f u : List UInt8) : List UInt8 := [101,110,100,101,100,32] ++ word ++ [44,32,102,97,105,108,105,110,103,32] ++ f ++ [44,32,117,115,101,100,32] ++ u ++ [10]
def fZ (line : aF) (m : AV) (t : Row) (o : Nat) : Nat → Nat → List UInt8 → Option (List UInt8 × Nat)
  | 0,_,acc=>some (acc,0)
  | k + 1,i,acc=>if mkF (t.at (o + i)) then match oZ (eJ (line.f (.nd m .lf (.nd (t.at (o + i)) .lf .lf)) .empty)) with
    | none=>none
    | some (s,c)=>if c = 0 then fZ line m t o k (i + 1) (acc ++ (s ++ [10])) else some ([],c) else none
def mn (right outc whole : aF) (x a b c : AV) (acc : List UInt8) : Option (List UInt8 × Nat) :=
  match bOf (eJ (right.f (.nd x .lf .lf) .empty)) with
  | none=>none
  | some false=>some ([],8)
  | some true=>match oZ (eJ (outc.f (.nd a .lf .lf) .empty)) with
    | none=>none
    | some (word,z)=>if z = 0 then match sOf (eJ (whole.f (.nd b .lf .lf) .empty)) with
      | none=>none
      | some f=>match sOf (eJ (whole.f (.nd c .lf .lf) .empty)) with
        | none=>none
        | some u=>some (acc ++ a14 word f u,0) else some ([],z)
def lp (line right outc whole : aF) (m a x : AV) : Option (List UInt8 × Nat) :=
  match iN a with
  | none=>none
  | some (t,o,n)=>if a4a m then match uz x with
    | none=>none
    | some (xa,xb,xc)=>if 2000 < n then some ([],4) else match fZ line m t o n 0 [] with
      | none=>none
      | some (acc,c)=>if c = 0 then mn right outc whole x xa xb xc acc else some ([],c) else none
def a5L (line right outc whole : aF) : aF := ⟨fun l hp=>match l with
  | .nd m _ (.nd a _ (.nd x _ .lf))=>match hp with
    | ⟨.lf,0,[],0⟩=>match lp line right outc whole m a x with
      | some (T,z)=>.val (.bu (.nd (S T) .lf (.nd (I z) .lf .lf)) 2) ⟨.lf,0,[],0⟩
      | none=>.fail
    | _=>.fail
  | _=>.fail⟩
end
end Go.Proofs.YtpiokjcbadfalaaGreatDoor.Ev
open Go Go.Proofs.YtpiokjcbadfalaaGreatDoor.Ev
namespace Go.Proofs.YtpiokjcbadfalaaGreatDoor.Tz
noncomputable section
def kC (l : List (Nat × aF)) (v : List Nat) (n s : Nat) : Cx := ⟨mem,Go.Proofs.Tryz.prog,l,[],[],gls,v,n,s⟩
def cr42 : Cx := kC [] [0] 2 35
def r42 : aF := aV cr42
def cr18 : Cx := kC [(35,r42)] [0,2,3,4] 16 17
def r18 : aF := aV cr18
def abl : Cx := kC [(17,r18)] [0,1,4,2,3] 97 15
def r13 : aF := aV abl
def tC : Cx := kC [] [0,1,4,12,11] 59 34
def r41 : aF := aV tC
def cr17 : Cx := kC [(34,r41)] [0,2,3] 10 16
def r17 : aF := aV cr17
def a3i : Cx := kC [] [0,1,4,6,5] 23 62
def r59 : aF := aV a3i
def cr43 : Cx := kC [(62,r59)] [0,2] 13 36
def r43 : aF := aV cr43
def cr19 : Cx := kC [(36,r43)] [0,2] 5 18
def r19 : aF := aV cr19
def cr44 : Cx := kC [] [0] 2 37
def r44 : aF := aV cr44
def cr20 : Cx := kC [(37,r44)] [0,2,3] 13 19
def r20 : aF := aV cr20
def cr5 : Cx := kC [(15,r13),(16,r17),(17,r18),(18,r19),(19,r20)] [0,1,4,5,2,3,7,9,10,11] 87 6
def r5 : aF := aV cr5
def cr33 : Cx := kC [] [0,2] 31 26
def r33 : aF := aV cr33
def r9 : aF := a5L r5 r33 r20 r19
def yJ : Cx := kC [] [0,2,3,6,4,5] 31 10
def r39 : aF := aV yJ
def yK : Cx := kC [] [0,1,4,8,7] 19 45
def r53 : aF := aV yK
def cr25 : Cx := kC [(35,r42),(45,r53)] [0,2,3,5] 15 23
def r25 : aF := aV cr25
def aoX : Cx := kC [] [0,2,4] 10 112
def agz : aF := aV aoX
def apm : Cx := kC [] [0,2,3,6,4,9,8,5,10,11,12] 117 145
def am0 : aF := aV apm
def aoY : Cx := kC [(145,am0)] [0,2,3] 19 113
def alK : aF := aV aoY
def aos : Cx := kC [(112,agz),(113,alK)] [0,1,4,7,6] 50 69
def aly : aF := aV aos
def alx : aF := subF
def aot : Cx := kC [(67,alx)] [0,1,4] 8 71
def ago : aF := aV aot
def aoZ : Cx := kC [] [0,1] 2 114
def alL : aF := aV aoZ
def adu : Cx := kC [(71,ago),(112,agz),(114,alL)] [0,1,4,5,6] 34 70
def alz : aF := cntG (aV adu)
def aoe : Cx := kC [(69,aly),(70,alz),(71,ago)] [0,1,2,3,8,10,9,11] 66 47
def aln : aF := aV aoe
def cr37 : Cx := kC [(47,aln)] [0,1,4] 8 28
def r37 : aF := ahu (aV cr37)
def om : Cx := kC [] [0,2,3,1,5,4] 57 14
def r16 : aF := aV om
def cr4 : Cx := kC [(14,r16)] [0,1,4] 22 5
def r4 : aF := aV cr4
def r46 : aF := ixfF 39
def cr47 : Cx := kC [] [0,2] 13 39
def r47 : aF := aV cr47
def r49 : aF := adr
def r75 : aF := idxF
def cr73 : Cx := kC [(108,r75)] [0,1,4] 8 106
def r73 : aF := aV cr73
def rB : Cx := kC [(106,r73)] [0,1,2,6,7,14,13,9,8,11] 60 64
def r62 : aF := aV rB
def abm : Cx := kC [(41,r49),(64,r62)] [0,2,3,4,8,9] 43 40
def r48 : aF := aV abm
def cr22 : Cx := kC [(38,r46),(39,r47),(40,r48),(41,r49)] [0,1,4,5,6] 49 20
def r22 : aF := aV cr22
def r23 : aF := afu
def r24 : aF := cutF
def cr26 : Cx := kC [(37,r44),(45,r53)] [0,2,3,5] 14 24
def r26 : aF := aV cr26
def cr7 : Cx := kC [(6,r5),(20,r22),(21,r23),(22,r24),(23,r25),(24,r26)] [0,1,4,5,7,12,8,10,6,27,15,17,19,26,24,2] 156 7
def r7 : aF := aV cr7
def cr38 : Cx := kC [(20,r22),(22,r24),(24,r26),(26,r33),(41,r49)] [0,2,3] 66 29
def r38 : aF := aV cr38
def tB : Cx := kC [(7,r7),(28,r37),(29,r38)] [0,1,4,5,6,7,8,55,54,53,2,11,14,9] 75 9
def r11 : aF := aV tB
def wx : Cx := kC [] [0,1,4,5] 26 11
def r15 : aF := aV wx
end
end Go.Proofs.YtpiokjcbadfalaaGreatDoor.Tz
namespace Go.Proofs.YtpiokjcbadfalaaGreatDoor.Tz
noncomputable section
def rq : Sm := o9 Go.Proofs.YtpiokjcbadfalaaGreatDoor.Tz.a3i [1,1,1,0]
def xm : Fr → Hp → ab := qb Go.Proofs.YtpiokjcbadfalaaGreatDoor.Tz.a3i [1,1,1,0]
def yv : ab → ab := oy Go.Proofs.YtpiokjcbadfalaaGreatDoor.Tz.a3i [1,1,1,0]
def ky : Sm := aT Go.Proofs.YtpiokjcbadfalaaGreatDoor.Tz.a3i [1,1,1,0,0,0,1,1,1,1]
def zR : Sm := aT Go.Proofs.YtpiokjcbadfalaaGreatDoor.Tz.a3i [1,1,1,0,0]
def aei : ab → ab := kO Go.Proofs.YtpiokjcbadfalaaGreatDoor.Tz.a3i
theorem t59 (x0 x1 : AV) (hp : Hp) : r59.f (.nd x0 .lf (.nd x1 .lf .lf)) hp = aei (dU mem (br mem) (AV.agg (aA [.int 4 0,.int 4 0,.int 4 0,.int 4 0,.int 4 0,.int 4 0,.int 4 0,.int 4 0,.int 4 0,.int 4 0,.int 4 0,.int 4 0,.int 4 0,.int 4 0,.int 4 0,.int 4 0,.int 4 0,.int 4 0,.int 4 0,.int 4 0,.int 4 0,.int 4 0,.int 4 0,.int 4 0,.int 4 0,.int 4 0,.int 4 0,.int 4 0,.int 4 0,.int 4 0,.int 4 0,.int 4 0,.int 4 0,.int 4 0,.int 4 0,.int 4 0,.int 4 0,.int 4 0,.int 4 0,.int 4 0,.int 4 0,.int 4 0,.int 4 0,.int 4 0,.int 4 0,.int 4 0,.int 4 0,.int 4 0,.int 4 0,.int 4 0,.int 4 0,.int 4 0,.int 4 0,.int 4 0,.int 4 0,.int 4 0,.int 4 0,.int 4 0,.int 4 0,.int 4 0,.int 4 0,.int 4 0,.int 4 0,.int 4 0]) 64) 1 64 hp (fun v0 v1=>xm (.n x0 x1 (S []) (.int 3 64) v0 .uu .uu .uu .e) v1)) := (congrArg (fun F=>aF.f F (.nd x0 .lf (.nd x1 .lf .lf)) hp) (cX Go.Proofs.YtpiokjcbadfalaaGreatDoor.Tz.a3i).symm).trans (by kernel_rfl)
theorem ret59 (x0 x1 x2 x3 x4 : AV) (hp : Hp) : aei (.ret (.n x0 x1 x2 x3 x4 .uu .uu .uu .e) hp) = .val x2 hp := by kernel_rfl
theorem a2U (x0 x1 x2 x3 x4 : AV) (hp : Hp) : (rq).run .lf (.n x0 x1 x2 x3 x4 .uu .uu .uu .e) hp = (ar .sub 3).f x3 (.int 3 1) (fun v2=>(ar .rem 7).f x0 x1 (fun v3=>iG v3 16 (fun v4=>bQ 4 (Nat.mod (Nat.div 136107713667768957684761770045455085872 (Nat.pow 256 v4)) 256) (fun v5=>km 1 64 x4 v2 (fun v6=>bk mem 1 v6 v5 hp (fun v7=>(ar .quo 7).f x0 x1 (fun v8=>(ar .eql 7).f v8 (.int 7 0) (fun v9=>AV.aJ v9 (fun v10=>when v10 (AV.qe x4 (fun v11 v12=>Hp.use mem v7 v11 (Nat.add v12 64) (fun _ _ _ _ _=>eS 1 (.ms v11 v12 64 1) (.some v2) .none .none (fun v18=>AV.eD v18 (fun _ _ _ _=>lD mem 1 v18 v7 (fun v23 v24 v25 _=>(pack mem v25).f v23 v24 (fun v27=>.ret (.n v8 x1 (.str v27 v25) v2 x4 .uu .uu .uu .e) v7))) (fun _ _ _ _=>lD mem 1 v18 v7 (fun v32 v33 v34 _=>(pack mem v34).f v32 v33 (fun v36=>.ret (.n v8 x1 (.str v36 v34) v2 x4 .uu .uu .uu .e) v7))) (fun v37=>au (or (Nat.beq v37 8) (Nat.beq v37 6)) (.ret (.n v8 x1 (S []) v2 x4 .uu .uu .uu .e) v7)) (fun _ _=>.fail)))) (fun v40 v41 v42 v43=>au (Nat.beq v43 1) (au (Nat.beq (Nat.mod v41 1) 0) (au (Nat.ble 64 v42) (eS 1 (.vs v40 (Nat.div v41 1) 64 1) (.some v2) .none .none (fun v44=>AV.eD v44 (fun _ _ _ _=>lD mem 1 v44 v7 (fun v49 v50 v51 _=>(pack mem v51).f v49 v50 (fun v53=>.ret (.n v8 x1 (.str v53 v51) v2 x4 .uu .uu .uu .e) v7))) (fun _ _ _ _=>lD mem 1 v44 v7 (fun v58 v59 v60 _=>(pack mem v60).f v58 v59 (fun v62=>.ret (.n v8 x1 (.str v62 v60) v2 x4 .uu .uu .uu .e) v7))) (fun v63=>au (or (Nat.beq v63 8) (Nat.beq v63 6)) (.ret (.n v8 x1 (S []) v2 x4 .uu .uu .uu .e) v7)) (fun _ _=>.fail))))))) ((ky).run .lf (.n v8 x1 x2 v2 x4 .uu .uu .uu .e) v7)))))))))) := by kernel_rfl
theorem a4t (fr : Fr) (hp : Hp) : xm fr hp = yv (b8 rq 1000000 fr hp) := rfl
theorem a2b (fr : Fr) (hp : Hp) : yv (.ret fr hp) = .ret fr hp := by kernel_rfl
theorem sd (x0 x1 x2 x3 x4 : AV) (hp : Hp) : (ky).run .lf (.n x0 x1 x2 x3 x4 .uu .uu .uu .e) hp = (zR).run .lf (.n x0 x1 x2 x3 x4 .uu .uu .uu .e) hp := by kernel_rfl
theorem a1m (x0 x1 x2 x3 x4 : AV) (hp : Hp) : (zR).run .lf (.n x0 x1 x2 x3 x4 .uu .uu .uu .e) hp = .ok (.n x0 x1 x2 x3 x4 .uu .uu .uu .e) hp := by kernel_rfl
end
def dg (d : Nat) : UInt8 := (if d < 10 then 48 + d else 87 + d).toUInt8
def fQ (base : Nat) : Nat → Nat → List UInt8
  | 0,_=>[]
  | f + 1,n=>if n / base = 0 then [dg (n % base)] else fQ base f (n / base) ++ [dg (n % base)]
theorem zD : ∀ d,d < 16 → 136107713667768957684761770045455085872 / 256 ^ d % 256 = (dg d).toNat := by decide
theorem al4 {a n : Nat} {k : Nat → ab} (h : a < n) : iG (U a) n k = k a := by
  show au (Nat.ble (Nat.succ a) n) (mY 7 a (k a)) = _
  rw [aG (by rw [bn]; exact h)]
  rfl
theorem arr_I {a : Int} (h0 : 0 ≤ a) (h : a < 64) (k : AV → ab) : km 1 64 (.ptr 0 0) (I a) k = k (.ptr 0 a.toNat) := by
  show iG (I a) 64 (fun j=>aL (0 + j * 1) fun p=>k (.ptr 0 p)) = _
  rw [a43 h0 (by omega) (by decide),az,Nat.zero_add,Nat.mul_one]
theorem a7V {b o n z : Nat} {f : Nat → Nat → Nat → Nat → ab} {r : Row → Nat → Nat → Nat → ab} {y : Nat → ab} {s : Nat → Nat → ab} : AV.eD (.ms b o n z) f r y s = f b o n z := rfl
theorem acC {b o n : Nat} {a : Int} {k : AV → ab} (h0 : 0 ≤ a) (h : a ≤ n) (hn : n < 9223372036854775808) : eS 1 (.ms b o n 1) (.some (I a)) .none .none k = k (.ms b (o + a.toNat) (n - a.toNat) 1) := by
  show au (Nat.beq 1 1) (gL (I a) n fun l=>when false (k (.x 6 .lf 0 0 0)) (aL (Nat.add o (Nat.mul l 1)) fun o=>aL (Nat.sub n l) fun n=>k (.ms b o n 1))) = _
  rw [aG (b := Nat.beq 1 1) rfl,zn h0 h hn,a25,az,az]
  show k (.ms b (o + a.toNat * 1) (n - a.toNat) 1) = _
  rw [Nat.mul_one]
theorem avc {M : Mem} (ok : a2j M) {fl : Bool} {t : Row} {o m : Nat} (h : o + m ≤ 64) (k : Row → Nat → Nat → Bool → ab) : lD M 1 (.ms 0 o m 1) (H1 (.row true fl 1 64 t)) k = k t o m fl := a8c (a7b ok _) h k
theorem avl {n base : Nat} {at' : Int} {fl : Bool} {t : Row} {x2 : AV} (hn : n < 18446744073709551616) (hb : 2 ≤ base) (hb2 : base ≤ 16) (h1 : 1 ≤ at') (h2 : at' ≤ 64) (acc : List UInt8) (hacc : (acc.length : Int) = 64 - at')
    (hrow : ∀ j (h : j < acc.length),t.at (at'.toNat + j) = B8 (acc[j]).toNat) :
    ∃ t' fl',(∀ j (h : j < (dg (n % base) :: acc).length),t'.at ((at' - 1).toNat + j) = B8 ((dg (n % base) :: acc)[j]).toNat) ∧
      (rq).run .lf (.n (U n) (U base) x2 (I at') (.ptr 0 0) .uu .uu .uu .e) (H1 (.row true fl 1 64 t)) =
        if n / base = 0 then .ret (.n (U (n / base)) (U base) (S (dg (n % base) :: acc)) (I (at' - 1)) (.ptr 0 0) .uu .uu .uu .e) (H1 (.row true fl' 1 64 t'))
        else (ky).run .lf (.n (U (n / base)) (U base) x2 (I (at' - 1)) (.ptr 0 0) .uu .uu .uu .e) (H1 (.row true fl' 1 64 t')) := by
  have hd : n % base < 16 := Nat.lt_of_lt_of_le (Nat.mod_lt _ (by omega)) hb2
  obtain ⟨t',ht,hk⟩ := ahy tP (fl := fl) (s := 64) (t := t) (o := (at' - 1).toNat) (c := (dg (n % base)).toNat) (by omega) (by decide)
  have hrow' : ∀ j (h : j < (dg (n % base) :: acc).length),t'.at ((at' - 1).toNat + j) = B8 ((dg (n % base) :: acc)[j]).toNat := fun j h=>by
    have e : t'.at ((at' - 1).toNat + j) = if (at' - 1).toNat + j = (at' - 1).toNat then B8 (dg (n % base)).toNat else t.at ((at' - 1).toNat + j) := ht _
    rw [e]
    cases j with
    | zero=>rw [if_pos (by omega)]; rfl
    | succ j=>
      rw [if_neg (by omega),show (at' - 1).toNat + (j + 1) = at'.toNat + j by omega]
      exact hrow j (by simpa using h)
  refine ⟨t',bp fl true,hrow', ?_⟩
  rw [a2U,arH,anA,rem_U (by omega) hn,al4 hd,fX]
  show km 1 64 (.ptr 0 0) (I (at' - 1)) _ = _
  rw [arr_I (by omega) (by omega)]
  have ed : AV.int 4 (Nat.mod (Nat.div 136107713667768957684761770045455085872 (Nat.pow 256 (n % base))) 256) = B8 (dg (n % base)).toNat := congrArg (AV.int 4) (zD _ hd)
  rw [ed,hk,alg (by omega) hn]
  show (ar .eql 7).f (U (n / base)) (U 0) _ = _
  rw [akV,xI,yp]
  by_cases h0 : n / base = 0
  · rw [if_pos h0,if_pos h0]
    show Hp.use mem (H1 (.row true (bp fl true) 1 64 t')) 0 64 _ = _
    rw [a1Z (a7b tP _) (Nat.le_refl 64),acC (by omega) (by omega) (by decide)]
    have e1 : 64 - (at' - 1).toNat = (dg (n % base) :: acc).length := by
      show 64 - (at' - 1).toNat = acc.length + 1
      omega
    have e2 : 0 + (at' - 1).toNat = (at' - 1).toNat := Nat.zero_add _
    rw [e1,e2]
    rw [a7V]
    refine (avc tP (by simp only [List.length_cons]; omega) _).trans ?_
    refine (a9U tP (dg (n % base) :: acc) (by simp only [List.length_cons]; omega) hrow' _).trans ?_
    rfl
  · rw [if_neg h0,if_neg h0]
theorem afI {base : Nat} (hb : 2 ≤ base) (hb2 : base ≤ 16) : ∀ (f n : Nat) (acc : List UInt8) (at' : Int) (fl : Bool) (t : Row) (x2 : AV) (fuel : Nat),n < base ^ f → n < 18446744073709551616 → 1 ≤ f → f ≤ fuel → (f : Int) ≤ at' → at' ≤ 64 → (acc.length : Int) = 64 - at' →
    (∀ j (h : j < acc.length),t.at (at'.toNat + j) = B8 (acc[j]).toNat) →
    ∃ x3 x4 hp',b8 rq fuel (.n (U n) (U base) x2 (I at') (.ptr 0 0) .uu .uu .uu .e) (H1 (.row true fl 1 64 t)) = .ret (.n (U 0) (U base) (S (fQ base f n ++ acc)) x3 x4 .uu .uu .uu .e) hp'
  | 0,_,_,_,_,_,_,_,_,_,h,_,_,_,_,_=>absurd h (by decide)
  | f + 1,n,acc,at',fl,t,x2,0,_,_,_,h,_,_,_,_=>absurd h (by omega)
  | f + 1,n,acc,at',fl,t,x2,fuel + 1,hn,hn2,_,hf,ha,ha2,hacc,hrow=>by
    obtain ⟨t',fl',hrow',hs⟩ := avl (fl := fl) (x2 := x2) hn2 hb hb2 (by omega) ha2 acc hacc hrow
    by_cases h0 : n / base = 0
    · rw [if_pos h0] at hs
      rw [lU hs,h0]
      have e : fQ base (f + 1) n = [dg (n % base)] := by simp only [fQ,h0,if_true]
      rw [e]
      exact ⟨_,_,_,rfl⟩
    · rw [if_neg h0,sd,a1m] at hs
      rw [gv hs]
      have hlt : n / base < base ^ f := by
        rw [Nat.div_lt_iff_lt_mul (by omega),← Nat.pow_succ]; exact hn
      have hf1 : 1 ≤ f := by
        cases f with
        | zero=>exact absurd hlt (by simpa using h0)
        | succ f=>omega
      obtain ⟨x3,x4,hp',h⟩ := afI hb hb2 f (n / base) (dg (n % base) :: acc) (at' - 1) fl' t' x2 fuel hlt (Nat.lt_of_le_of_lt (Nat.div_le_self _ _) hn2) hf1 (by omega) (by omega) (by omega) (by simp only [List.length_cons]; omega) hrow'
      refine ⟨x3,x4,hp',h.trans ?_⟩
      have e : fQ base (f + 1) n = fQ base f (n / base) ++ [dg (n % base)] := by simp only [fQ,h0,if_false]
      rw [e,List.append_assoc]; rfl
theorem ah0 {n base : Nat} (hn : n < 18446744073709551616) (hb : 2 ≤ base) (hb2 : base ≤ 16) : ∃ hp',r59.f (.nd (U n) .lf (.nd (U base) .lf .lf)) .empty = .val (S (fQ base 64 n)) hp' := by
  obtain ⟨t0,h0⟩ := ao1 tP (z := 64) (l := qC (List.replicate 64 (.int .u8 0))) (by decide) (by decide) rfl (fun k=>by kernel_rfl) rfl
  have e0 := h0 (fun v0 v1=>xm (.n (U n) (U base) (.str 0 0) (.int 3 64) v0 .uu .uu .uu .e) v1)
  obtain ⟨x3,x4,hp',hl⟩ := afI hb hb2 64 n [] 64 true t0 (.str 0 0) 1000000 (by
    have : 2 ^ 64 ≤ base ^ 64 := Nat.pow_le_pow_left hb 64
    omega) hn (by decide) (by decide) (by decide) (by decide) rfl (fun j h=>absurd h (Nat.not_lt_zero _))
  rw [List.append_nil] at hl
  refine ⟨hp', ?_⟩
  rw [t59]
  refine (congrArg aei (e0.trans ?_)).trans (ret59 (U 0) (U base) (S (fQ base 64 n)) x3 x4 hp')
  rw [a4t]
  exact (congrArg yv hl).trans (a2b _ _)
noncomputable section
def a9z : Sm := aT cr43 [1,0,1]
def a9d : ab → ab := kO cr43
theorem t43 (x0 : AV) (hp : Hp) : r43.f (.nd x0 .lf .lf) hp = a9d ((ar .lss 3).f x0 (.int 3 0) (fun v0=>AV.aJ v0 (fun v1=>when v1 (AV.bO x0 (fun v2 v3=>bQ 7 (yz (md v2) (hf v2) 18446744073709551616 v3) (fun v4=>AV.bO v4 (fun v5 v6=>bQ v5 (Nat.mod (Nat.sub (md v5) v6) (md v5)) (fun v7=>aH mem false r59 (.nd v7 .lf (.nd (.int 7 10) .lf .lf)) hp (fun v8 v9=>(gM .add).f (S [45]) v8 (fun v10=>.ret (.n x0 v10 .uu .uu .uu .uu .uu .uu .e) v9))))))) ((a9z).run .lf (.n x0 (S []) .uu .uu .uu .uu .uu .uu .e) hp)))) := (congrArg (fun F=>aF.f F (.nd x0 .lf .lf) hp) (cX cr43).symm).trans (by kernel_rfl)
theorem ant (x0 x1 : AV) (hp : Hp) : a9d (.ret (.n x0 x1 .uu .uu .uu .uu .uu .uu .e) hp) = .val x1 hp := by kernel_rfl
theorem a7i (x0 x1 : AV) (hp : Hp) : (a9z).run .lf (.n x0 x1 .uu .uu .uu .uu .uu .uu .e) hp = AV.bO x0 (fun v11 v12=>bQ 7 (yz (md v11) (hf v11) 18446744073709551616 v12) (fun v13=>aH mem false r59 (.nd v13 .lf (.nd (.int 7 10) .lf .lf)) hp (fun v14 v15=>.ret (.n x0 v14 .uu .uu .uu .uu .uu .uu .e) v15))) := by kernel_rfl
end
noncomputable section
def aef : ab → ab := kO cr19
theorem t19 (x0 : AV) (hp : Hp) : r19.f (.nd x0 .lf .lf) hp = aef (aH mem false r43 (.nd x0 .lf .lf) hp (fun v0 v1=>.ret (.n x0 v0 .uu .uu .uu .uu .uu .uu .e) v1)) := (congrArg (fun F=>aF.f F (.nd x0 .lf .lf) hp) (cX cr19).symm).trans (by kernel_rfl)
theorem ret19 (x0 x1 : AV) (hp : Hp) : aef (.ret (.n x0 x1 .uu .uu .uu .uu .uu .uu .e) hp) = .val x1 hp := by kernel_rfl
end
def bV (z : Int) : List UInt8 := if z < 0 then 45 :: fQ 10 64 (-z).toNat else fQ 10 64 z.toNat
theorem rF {base : Nat} : ∀ f n,(fQ base f n).length ≤ f
  | 0,_=>Nat.le_refl _
  | f + 1,n=>by
    unfold fQ
    split
    · simp
    · rw [List.length_append]; have := rF (base := base) f (n / base); simp only [List.length_cons,List.length_nil]; omega
theorem auK {z : Int} (h : jR z) : ∃ hp',r43.f (.nd (I z) .lf .lf) .empty = .val (S (bV z)) hp' := by
  obtain ⟨h1,h2⟩ := h
  refine ⟨.empty, ?_⟩
  rw [t43,arG,alb ⟨h1,h2⟩ (by unfold jR; omega),xI,yp]
  by_cases hz : z < 0
  · have hl := rF (base := 10) 64 (-z).toNat
    rw [if_pos hz,a0W,alc]
    have e : (18446744073709551616 - (z % 18446744073709551616).toNat) % 18446744073709551616 = (-z).toNat := by omega
    rw [e]
    refine (congrArg a9d (call2 (vR _) (mj 7 10) (c8 _).goes (ah0 (n := (-z).toNat) (base := 10) (by omega) (by decide) (by decide)) _ _)).trans ?_
    rw [akQ (by simp only [List.length_cons,List.length_nil]; omega),ant]
    unfold bV
    rw [if_pos hz]; rfl
  · rw [if_neg hz,a7i,a0W]
    have e : (z % 18446744073709551616).toNat = z.toNat := by omega
    rw [e]
    refine (congrArg a9d (call2 (vR _) (mj 7 10) (c8 _).goes (ah0 (n := z.toNat) (base := 10) (by omega) (by decide) (by decide)) _ _)).trans ?_
    rw [ant]
    unfold bV
    rw [if_neg hz]
theorem a83 {z : Int} (h : jR z) : ∃ hp',r19.f (.nd (I z) .lf .lf) .empty = .val (S (bV z)) hp' := by
  refine ⟨.empty, ?_⟩
  rw [t19]
  refine (congrArg aef (call1 (ll _) (c8 _).goes (auK h) _ _)).trans ?_
  rw [ret19]
noncomputable section
def resB (r : ab) (f : AV → Bool) : Bool := ab.rec (motive := fun _=>Bool) (fun _ _=>false) (fun _ _ _=>false) (fun _ _=>false) (fun v _=>f v) false r
def strB (v : AV) (f : Nat → Nat → Bool) : Bool := match v with
  | .str s k=>f s k
  | _=>false
def ag5 (v : AV) (f : Nat → Nat → Nat → Bool) : Bool := match v with
  | .bu (.nd (.str s k) .lf (.nd (.int 3 e) .lf .lf)) 2=>f s k e
  | _=>false
end
theorem a5r {r : ab} {f : AV → Bool} (h : resB r f = true) : ∃ v hp,r = .val v hp ∧ f v = true := by
  cases r <;> first | exact ⟨_,_,rfl,h⟩ | exact Bool.noConfusion h
theorem ahB {v : AV} {f : Nat → Nat → Bool} (h : strB v f = true) : ∃ s k,v = .str s k ∧ f s k = true := by
  unfold strB at h
  split at h
  · exact ⟨_,_,rfl,h⟩
  · exact Bool.noConfusion h
theorem acn {v : AV} {f : Nat → Nat → Nat → Bool} (h : ag5 v f = true) : ∃ s k e,v = .bu (.nd (.str s k) .lf (.nd (.int 3 e) .lf .lf)) 2 ∧ f s k e = true := by
  unfold ag5 at h
  split at h
  · exact ⟨_,_,_,rfl,h⟩
  · exact Bool.noConfusion h
def kQ (c : Nat) : List UInt8 := if c = 34 ∨ c = 92 then [92,c.toUInt8] else if c = 10 then [92,110] else if c < 32 ∨ 126 < c then [92,120,dg (c / 16),dg (c % 16)] else [c.toUInt8]
def jw (l : List UInt8) : List UInt8 := 34 :: (l.flatMap (fun c=>kQ c.toNat) ++ [34])
noncomputable section
end
theorem zx (c : Nat) : (kQ c).length ≤ 4 := by
  unfold kQ
  split
  · simp
  · split
    · simp
    · split <;> simp
theorem a3v (l : List UInt8) : (l.flatMap (fun c=>kQ c.toNat)).length ≤ 4 * l.length := by
  induction l with
  | nil=>simp
  | cons c l ih=>
    rw [List.flatMap_cons,List.length_append,List.length_cons]
    have := zx c.toNat
    omega
end Go.Proofs.YtpiokjcbadfalaaGreatDoor.Tz
open Go Go.Proofs.YtpiokjcbadfalaaGreatDoor.Ev Go.Proofs.YtpiokjcbadfalaaGreatDoor.Tz
namespace Go.Proofs.YtpiokjcbadfalaaGreatDoor.Ev
theorem byteK {a : List UInt8} {j : Nat} {k : AV → ab} (h : j < a.length) : bQ 4 (Nat.mod (Nat.div (aR a) (Nat.pow 256 j)) 256) k = k (B8 (a.getD j 0).toNat) := by
  rw [ao2 h]; congr 2; simp [List.getD,h]
theorem digK {d : Nat} {k : AV → ab} (h : d < 16) : bQ 4 (Nat.mod (Nat.div 136107713667768957684761770045455085872 (Nat.pow 256 d)) 256) k = k (B8 (dg d).toNat) := by
  rw [fX]
  show k (AV.int 4 (136107713667768957684761770045455085872 / 256 ^ d % 256)) = _
  rw [zD d h]; rfl
theorem idx_B {a n : Nat} {k : Nat → ab} (h : a < n) : iG (B8 a) n k = k a := by
  show au (Nat.ble (Nat.succ a) n) (mY 4 a (k a)) = _
  rw [aG (by rw [bn]; exact h)]
  rfl
theorem arE {a n : Nat} {k : Nat → ab} (h : a < n) : iG (U a) n k = k a := al4 h
theorem avd {a : Nat} {k : AV → ab} : (ar .shr 4).f (B8 a) (U 4) k = k (B8 (a / 16)) := by
  show bQ 4 (a / 2 ^ 4) k = _
  rw [fX]; rfl
theorem aif {a : Nat} {k : AV → ab} : (ar .and 4).f (B8 a) (B8 15) k = k (B8 (a % 16)) := by
  show bQ 4 (Nat.land a 15) k = _
  rw [fX]
  show k (B8 (a &&& 15)) = _
  rw [show (15 : Nat) = 2 ^ 4 - 1 from rfl,Nat.and_two_pow_sub_one_eq_mod]
theorem add_B {a b : Nat} {k : AV → ab} : (ar .add 4).f (B8 a) (B8 b) k = k (B8 ((a + b) % 256)) := by
  show bQ 4 ((a + b) % 256) k = _
  rw [fX]; rfl
theorem neq_B {a b : Nat} {k : AV → ab} : (ar .neq 4).f (B8 a) (B8 b) k = k (.bool (!decide (a = b))) := by
  show k (.bool (de (Nat.beq a b))) = _
  rw [rr,fq]
theorem ajS {a b : Nat} (h : a ≤ b) (x : ab) : au (Nat.ble a b) x = x := aG (dR h) x
theorem arD {a : Int} {n : Nat} {k : Nat → ab} (h : (0 ≤ a ∧ a < n) ∧ n < 9223372036854775808) : iG (I a) n k = k a.toNat := a43 h.1.1 h.1.2 h.2
theorem au8 {t : Row} {o n z : Nat} {hp : Hp} {k : Nat → ab} : dX mem 1 (.vs t o n z) hp k = k n := rfl
theorem au7 {b o n z : Nat} {hp : Hp} {k : Nat → ab} : dX mem 1 (.ms b o n z) hp k = k n := rfl
theorem len_nil {hp : Hp} {k : Nat → ab} : dX mem 1 (.x 8 .lf 0 0 0) hp k = k 0 := rfl
theorem bI {M : Mem} {hp : Hp} {pl : List Nat} {r r' : ab} {K : Hp → AV → ab} (h : mk r = r') : aaX M hp pl r K = aaX M hp pl r' K := by rw [mk_eq] at h; rw [h]
end Go.Proofs.YtpiokjcbadfalaaGreatDoor.Ev
namespace Go.Proofs.YtpiokjcbadfalaaGreatDoor.Ev
theorem ab9 {M : Mem} (ok : mA M) {F : aF} {l : Row} {hc hp : Hp} {c n z s : Nat} {t : Row} (hz : ∀ hp k,zl (nB M 24) l hp k = k l hp) (hcl : c < 16777215) (hct : hc.at c = .row true true z s t) (hnx : hp.nx < 16777215) (e : F.f l .empty = .val (.ms c 0 n z) hc) (k : AV → Hp → ab) :
    aH M false F l hp k = k (.ms hp.nx 0 n z) (hp.add (.row true true z s t)) := by
  show er M hp l (fun a ho=>dQ M F a hp ho k) (dB F l hp k) = _
  unfold er
  rw [hz]
  show dQ M F l hp hp k = _
  unfold dQ
  rw [e]
  show ib M (imp M 23) c hc hp false (fun id hc hp' b=>when b _ (k (.ms id 0 n z) hp')) = _
  unfold ib
  rw [Go.Proofs.YtpiokjcbadfalaaGreatDoor.Ev.get_at ok hcl,hct]
  show hc.put M c (.fwd hp.nx) (fun hc=>(br M).f hp (.row true true z s t) fun id hp=>when false _ (k (.ms id 0 n z) hp)) = _
  rw [gx ok hcl,iS ok hnx]
  rfl
theorem aiw {F : aF} {l : Row} {hc hp : Hp} {c n z s : Nat} {t : Row} (hl : lx l) (hcl : c < 16777215) (hct : hc.at c = .row true true z s t) (hnx : hp.nx < 16777215) (e : F.f l .empty = .val (.ms c 0 n z) hc) (k : AV → Hp → ab) :
    aH mem false F l hp k = k (.ms hp.nx 0 n z) (hp.add (.row true true z s t)) := ab9 dx (fk hl) hcl hct hnx e k
theorem callB {F : aF} {l : Row} {a : AV} {hc hp : Hp} {m : List UInt8} (hl : lx l) (hb : lF hc a m) (hm : m ≠ []) (hnc : hc.nx ≤ 1000000) (hnx : hp.nx ≤ 1000000) (e : F.f l .empty = .val a hc) :
    ∃ a' hp',lF hp' a' m ∧ hp'.nx = hp.nx + 1 ∧ hp'.pr = hp.pr ∧ ∀ k,aH mem false F l hp k = k a' hp' := by
  rcases hb with ⟨_,h⟩ | ⟨c,t,rfl,hcl,hct,ht⟩
  · exact absurd h hm
  exact ⟨.ms hp.nx 0 m.length 1,hp.add (.row true true 1 m.length t),.inr ⟨_,t,rfl,by rw [dy]; omega,add_same (by omega),ht⟩,rfl,rfl,fun k=>aiw hl (by omega) hct (by omega) e k⟩
theorem a8l : Still (.x 8 .lf 0 0 0) := ⟨fun _ _=>rfl,fun _ _ _ _=>rfl⟩
theorem adf {h : Hp} {a : AV} {m : List UInt8} (hb : lF h a m) (hm : m ≠ []) (hnx : h.nx ≤ 1000000) (hl : m.length ≤ 1000000) {G : Row → Nat → Nat → Nat → ab} {y : Nat → ab} {s : Nat → Nat → ab} {F : Nat → Nat → ab} : 
    AV.eD a (fun _ _ _ _=>lD mem 1 a h fun t o n _=>(pack mem n).f t o fun s=>F s n) G y s = F (aR m) m.length := by
  rcases hb with ⟨_,h⟩ | ⟨c,t,rfl,hcl,hct,ht⟩
  · exact absurd h hm
  · show lD mem 1 (.ms c 0 m.length 1) h (fun t o n _=>(pack mem n).f t o fun s=>F s n) = _
    rw [a8c (fun k=>by rw [get_at dx (by omega),hct]) (by omega)]
    exact a9U tP m (by omega) (fun j hj=>by rw [Nat.zero_add,ht j hj]; congr 2; simp [List.getD,hj]) _
end Go.Proofs.YtpiokjcbadfalaaGreatDoor.Ev
