import Derived.Test.YtpiokjcbadfalaaGreatDoorEvAB
import Derived.Test.YtpiokjcbadfalaaGreatDoorEvAM
import Derived.Lib.Bytealg
import Derived.Lib.Index
import Derived.Lib.Atoi
import Derived.Below
import Derived.Lib.AtoiErrMem
namespace Go.Proofs.YtpiokjcbadfalaaGreatDoor.Ev
def acX (C : Cx) (w : World) (F : Nat → Prop) (μ : Mu) (fr : Fr) (T : Array Value) : Prop := ∀ t j,idxOf t C.vars 0 = .f j → ai w F μ (fr.at j) (T.getD t undef)
def u0 (T : Array Value) (l : List (Nat × Value)) : Array Value := l.foldl (fun T p=>T.setIfInBounds p.1 p.2) T
theorem a5u {C : Cx} {R : ab} (hR : R ≠ .fail) : ∀ {ps : List Nat} {l : Row} {fr : Fr} {k : Fr → ab},ahi C ps l fr k = R → ∃ fr',k fr' = R ∧ len l = ps.length ∧ ∀ {w : World} {F : Nat → Prop} {μ : Mu} {T : Array Value} {args : List Value},C.nt ≤ T.size → acX C w F μ fr T → args.length = ps.length → (∀ i u,args[i]? = some u → ai w F μ (nth l i) u) →
    acX C w F μ fr' (u0 T (ps.zip args)) ∧ (u0 T (ps.zip args)).size = T.size
  | [],l,fr,k,h=>by
    cases l with
    | lf=>exact ⟨fr,h,rfl,fun _ hf _ _=>⟨hf,rfl⟩⟩
    | nd v a r=>exact ah hR h
  | p :: ps, l, fr, k, h => by
    cases l with
    | lf=>exact ah hR h
    | nd v a r=>
      obtain ⟨hp,h1⟩ := an hR (show au (Nat.ble (Nat.succ p) C.nt) (Src.rec (motive := fun _=>ab) (fun _=>.fail) (fun _=>.fail) (fun i=>(abA i).f fr v fun fr=>ahi C ps r fr k) .fail (idxOf p C.vars 0)) = R from h)
      rw [bn] at hp
      rcases jH (l := C.vars) (t := p) (i := 0) with ⟨i,hi⟩ | hi
      · rw [hi] at h1
        obtain ⟨fr1,h2,h3⟩ := rN hR i (k := fun fr=>ahi C ps r fr k) h1
        obtain ⟨fr',h4,h5,H⟩ := a5u hR h3
        refine ⟨fr',h4,congrArg (· + 1) h5,fun {w F μ T args} hT hf hl ha=>?_⟩
        cases args with
        | nil=>cases hl
        | cons u us=>
          have h6 := H (w := w) (F := F) (μ := μ) (T := T.setIfInBounds p u) (args := us) (by simpa using hT) (fun t j hj=>?_) (by simpa using hl) (fun i u' e=>ha (i + 1) u' e)
          · exact ⟨h6.1,h6.2.trans (by simp)⟩
          · rw [h2 j]
            by_cases e : j = i
            · subst e
              have : t = p := jU hj hi
              subst this
              rw [if_pos rfl]
              have : (T.setIfInBounds t u).getD t undef = u := by
                rw [Array.getD_eq_getD_getElem?,Array.getElem?_setIfInBounds,if_pos rfl,if_pos (by omega)]; rfl
              rw [this]
              exact ha 0 u rfl
            · rw [if_neg e]
              have hne : p ≠ t := fun q=>by subst q; rw [hi] at hj; cases hj; exact e rfl
              have : (T.setIfInBounds p u).getD t undef = T.getD t undef := by
                rw [Array.getD_eq_getD_getElem?,Array.getD_eq_getD_getElem?,Array.getElem?_setIfInBounds,if_neg hne]
              rw [this]
              exact hf t j hj
      · rw [hi] at h1; exact ah hR h1
theorem aco (ps : Array Nat) (args : Array Value) (T : Array Value) : (ps.zip args).foldl (fun tmps (t,a)=>tmps.setIfInBounds t a) T = u0 T (ps.toList.zip args.toList) := by
  rw [← Array.foldl_toList,Array.toList_zip]; rfl
theorem su {V : Env} {μ : Mu} {F : Nat → Prop} {h : Hp} {w : World} (H : aN V μ F h w) {b s f i : Nat} {fr : Fr} {m : Mp} (hB : h.at b = .loop s f i fr) (hpr : b ∉ h.pr) (hm : μ b = some m) :
    ∃ L,w.heap[m.bq]? = some (.loop L) ∧ pv V.P w F μ V.vars s f i fr L ∧ ∀ {h' : Hp} {st : Nat} {L' : Loop},dZ h b (.loop st f i fr) h' → pv V.P w F μ V.vars st f i fr L' → aN V μ F h' { w with heap := w.heap.setIfInBounds m.bq (.loop L') } ∧ Ext μ F h w μ F h' { w with heap := w.heap.setIfInBounds m.bq (.loop L') } := by
  have hb := H.bq b
  rw [hB] at hb
  obtain ⟨m',L,h1,h2,h3,h4⟩ := hb
  rw [hm] at h1
  cases h1
  refine ⟨L,h2,h4,fun {h' st L'} hs hL=>?_⟩
  have hlt := (H.kR b m hm).2
  have hk : ∀ X,X ≠ m.bq → (w.heap.setIfInBounds m.bq (.loop L'))[X]? = w.heap[X]? := fun X hX=>by
    rw [Array.getElem?_setIfInBounds,if_neg (Ne.symm hX)]
  refine H.set (w' := { w with heap := w.heap.setIfInBounds m.bq (.loop L') }) (by rw [hB]; exact trivial) hpr hm (by simp) hk hs ⟨m,L',hm, ?_,h3,hL.mono (fun B hB=>hk B fun e=>h3 (e ▸ hB)) (fun _ h=>h) (fun _ _ h=>h)⟩
  show (w.heap.setIfInBounds m.bq (.loop L'))[m.bq]? = _
  rw [Array.getElem?_setIfInBounds,if_pos rfl,if_pos hlt]
theorem lg {P : Program} {w : World} {l : Nat} {L : Loop} (h : w.heap[l]? = some (.loop L)) : (Instr.getLoop l).run P w = .ok L w := by
  simp [Instr.getLoop,getObj,Sem.run,h]
theorem a1M {P : Program} {w : World} {l : Nat} {L : Loop} {j : Option Code} (h : w.heap[l]? = some (.loop L)) : (Instr.endRound l j).run P w = .ok (.bool j.isNone) { w with heap := w.heap.setIfInBounds l (.loop { L with state := if j.isNone then .ready else .done,pending := j }) } := by
  simp [Instr.endRound,lg h,setObj,Sem.run,h]
theorem xV {P : Program} {w : World} {l : Nat} {L : Loop} (h : w.heap[l]? = some (.loop L)) (hs : L.state = .ready) : (Instr.beginRound l).run P w = .ok () { w with heap := w.heap.setIfInBounds l (.loop { L with state := .busy }) } := by
  simp [Instr.beginRound,lg h,setObj,Sem.run,h,hs]
theorem a8u {M : Mem} (ok : cL M) {R : ab} (hR : R ≠ .fail) {b rb st : Nat} {pr : List Nat} {v : Bool} {h : Hp} {k : AV → Hp → ab} (g : yx M b pr rb st v h k = R) : ∃ f i fr h',h.at b = .loop 1 f i fr ∧ dZ h b (.loop st f i fr) h' ∧ k (.bool v) ⟨h'.t,h'.nx,pr,rb⟩ = R := by
  have g1 := et ok hR g
  obtain ⟨s,f,i,fr,hB,g2⟩ := mZ hR g1
  obtain ⟨hs,g3⟩ := an hR g2
  rw [aC] at hs
  subst hs
  obtain ⟨h',hset,_,g4⟩ := eu ok hR g3
  exact ⟨f,i,fr,h',hB,hset,by cases h'; exact g4⟩
theorem ahR {C : Cx} {i : Nat} : zf C i = nM ∨ ∃ fn c ps a b,C.P.funcs[C.self]? = some fn ∧ fn.body = some c ∧ gC i c = some (ps,a,b) ∧ dV a = [] ∧ dV b = [] ∧ (zf C i).f = (fun fr l hp=>ahi C ps l fr fun fr=>((den C a).run .e (fun _=>pG) [] bT).run .lf fr hp) ∧ (zf C i).g = fun fr hp=>((den C b).run .e (fun _=>pG) (ki (aew c)) qf).run .lf fr hp := by
  unfold zf
  split
  · exact .inl rfl
  · rename_i fn hfn
    rw [gr,Array.getElem?_toList] at hfn
    split
    · exact .inl rfl
    · rename_i c hc
      split
      · exact .inl rfl
      · rename_i ps a b hrf
        cases hb : aY (yW a) (yW b) with
        | false=>exact .inl rfl
        | true=>
          obtain ⟨h1,h2⟩ := (b9 _ _).mp hb
          exact .inr ⟨fn,c,ps,a,b,hfn,hc,hrf,oN h1,oN h2,rfl,rfl⟩
theorem kS {C : Cx} {vs : Vs} {μ0 : Mu} {F0 : Nat → Prop} {h0 : Hp} {w0 : World} {fr3 : Fr} {h3 : Hp} {a : Act} {w : World} (S : At C vs (.of 0) μ0 F0 h0 w0 .e .lf fr3 h3 a w) {b : Nat} {m : Mp} (hm : μ0 b = some m) (hpr : b ∉ h0.pr) {f i st : Nat} {fr : Fr} {h4 : Hp} (hB : h3.at b = .loop 1 f i fr) (hs : dZ h3 b (.loop st f i fr) h4) (j : Option Code)
    (hst : (st = 0 ∧ j = none) ∨ (st = 2 ∧ j = some .ret) ∨ (∃ id,st = 2 * id + 3 ∧ j = some (.exit id)) ∨ (∃ l,st = 2 * l + 1 + 3 ∧ j = some (.goto l))) :
    ∃ v w',(Instr.endRound m.bq j).run C.P w = .ok v w' ∧ ∃ x,Ending.returned v = .returned x ∧ ∃ μ' F',ai w' F' μ' (.bool j.isNone) x ∧ (∀ b,μ' b ≠ none → μ0 b ≠ none ∨ h0.nx ≤ b) ∧ aN (C.env vs) μ' F' ⟨h4.t,h4.nx,h0.pr,h0.rb⟩ w' ∧ Ext μ0 F0 h0 w0 μ' F' ⟨h4.t,h4.nx,h0.pr,h0.rb⟩ w' := by
  obtain ⟨μ,F,S,E⟩ := S
  have hpr3 : h3.pr = h0.pr := E.ext.pr
  obtain ⟨L,hL,hrel,H⟩ := su S.h hB (by rw [hpr3]; exact hpr) (E.ext.mu b m hm)
  refine ⟨_,_,a1M hL,_,rfl, ?_⟩
  obtain ⟨g1,g2⟩ := H (L' := { L with state := if j.isNone then .ready else .done,pending := j }) hs (by
    refine ⟨hrel.1,hrel.2.1,hrel.2.2.1, ?_⟩
    rcases hst with ⟨rfl,rfl⟩ | ⟨rfl,rfl⟩ | ⟨id,rfl,rfl⟩ | ⟨l,rfl,rfl⟩
    · exact ⟨rfl,rfl⟩
    · exact ⟨rfl,rfl⟩
    · exact ⟨rfl,.inl ⟨id,rfl,rfl⟩⟩
    · exact ⟨rfl,.inr ⟨l,rfl,rfl⟩⟩)
  have e := E.trans (.of g2 fun b hb=>.inl hb)
  refine ⟨μ,F,.bool _,e.ids,⟨g1.bq,g1.jo,g1.kR,g1.nC,g1.rO⟩, ?_⟩
  have e1 := e.ext
  have hp4 : h4.pr = h0.pr := e1.pr
  exact ⟨e1.mu,e1.fr,e1.size,e1.keep,fun B ⟨b,m,o1,o2,o3,o4⟩=>e1.own B ⟨b,m,o1,fun hm=>o2 (show b ∈ h0.pr from hp4 ▸ hm),o3,o4⟩,e1.wb,e1.pR,e1.lV,e1.nx,rfl,rfl,e1.io⟩
theorem ahS {C : Cx} {vs : Vs} (X : a0C C vs) (hv : vs C.self = C.nt :: C.vars) {M : Mem} (ok : cL M) {R : ab} (hR : R ≠ .fail) {i b : Nat} {l : Row} {hp : Hp} {fr0 : Fr} {k : AV → Hp → ab} (hB : hp.at b = .loop 0 C.self i fr0) (hpr : b ∉ hp.pr)
    (h : (ab.rec (motive := fun _=>ab) (fun fr1 h1=>Hp.rec (motive := fun _=>ab) (fun _ _ pr rb=>ab0 M b pr rb (zf C i) fr1 h1 k) hp) (fun _ _ _=>.fail) (fun _ _=>.fail) (fun _ _=>.fail) .fail ((zf C i).f fr0 l hp) : ab) = R) :
    ∃ v hp',k v hp' = R ∧ vB (C.env vs) b l hp v hp' := by
  rcases ahR (C := C) (i := i) with e | ⟨fn,c,ps,x,y,hfn,hc,hrf,hx,hy,hf,hg⟩
  · rw [e] at h; exact ah hR h
  · generalize hRa : (zf C i).f fr0 l hp = Ra at h
    cases Ra with
    | ok fr1 h1=>
      have h' : ab0 M b hp.pr hp.rb (zf C i) fr1 h1 k = R := by cases hp; exact h
      rw [hf] at hRa
      obtain ⟨fr0',hRa',hlen,HK⟩ := a5u (by simp) hRa
      have g1 := et ok hR h'
      obtain ⟨st,f',i',fr',hB1,g2⟩ := mZ hR g1
      obtain ⟨hst0,g3⟩ := an hR g2
      rw [aC] at hst0
      subst hst0
      obtain ⟨h2,hset2,_,g4⟩ := eu ok hR g3
      generalize hRb' : (zf C i).g fr1 h2 = Rb at g4
      have hRb : ((den C y).run .e (fun _=>pG) (ki (aew c)) qf).run .lf fr1 h2 = Rb := by rw [hg] at hRb'; exact hRb'
      have hRb0 : Rb ≠ .fail := fun e=>by rw [e] at g4; exact hR g4.symm
      have fin : ∃ (st : Nat) (j : Option Code) (fr3 : Fr) (h3 : Hp) ,yx M b hp.pr hp.rb st j.isNone h3 k = R ∧ ((Rb = .ok fr3 h3 ∧ st = 0 ∧ j = none) ∨ (Rb = .ret fr3 h3 ∧ st = 2 ∧ j = some .ret) ∨ (∃ id,Rb = .exit (2 * id) fr3 h3 ∧ st = 2 * id + 3 ∧ j = some (.exit id)) ∨ (∃ l,Rb = .exit (2 * l + 1) fr3 h3 ∧ st = 2 * l + 1 + 3 ∧ j = some (.goto l))) := by
        cases Rb with
        | ok fr3 h3=>exact ⟨0,none,fr3,h3,g4,.inl ⟨rfl,rfl,rfl⟩⟩
        | ret fr3 h3=>exact ⟨2,some .ret,fr3,h3,g4,.inr (.inl ⟨rfl,rfl,rfl⟩)⟩
        | exit n fr3 h3=>
          rcases Nat.mod_two_eq_zero_or_one n with e | e
          · have en : n = 2 * (n / 2) := by omega
            exact ⟨n + 3,some (.exit (n / 2)),fr3,h3,g4,.inr (.inr (.inl ⟨n / 2,by rw [← en],by omega,rfl⟩))⟩
          · have en : n = 2 * (n / 2) + 1 := by omega
            exact ⟨n + 3,some (.goto (n / 2)),fr3,h3,g4,.inr (.inr (.inr ⟨n / 2,by rw [← en],by omega,rfl⟩))⟩
        | _=>exact ah hR g4
      obtain ⟨st,j,fr3,h3,g5,hway⟩ := fin
      obtain ⟨f3,i3,fr3',h4,hB3,hset4,g6⟩ := a8u ok hR g5
      refine ⟨_,_,g6,fun w μ F m args r n hH hm ha=>?_⟩
      obtain ⟨L,hL,⟨⟨fn',c',ps',x',y',q1,q2,q3,q4,q5,q6⟩,hnt,hfr,hst⟩,_⟩ := su hH hB hpr hm
      have q1' : C.P.funcs[C.self]? = some fn' := q1
      rw [hfn] at q1'; cases q1'
      rw [hc] at q2; cases q2
      rw [hrf] at q3; cases q3
      have hnt' : C.nt ≤ L.tmps.size := by
        have e : (vs C.self).headD 0 ≤ L.tmps.size := hnt
        rw [hv] at e; exact e
      have hfr' : acX C w F μ fr0 L.tmps := fun t j e=>hfr t j (by
        show idxOf t (vs C.self).tail 0 = .f j
        rw [hv]; exact e)
      have hlen2 : args.toList.length = ps.length := by rw [Array.length_toList,← ha.1,hlen]
      obtain ⟨k1,k2⟩ := HK (w := w) (F := F) (μ := μ) (T := L.tmps) (args := args.toList) hnt' hfr' hlen2 fun i u e=>ha.2 i u (by rw [← Array.getElem?_toList]; exact e)
      refine ⟨L.fn,u0 L.tmps (ps.zip args.toList),L.assign,L.body, ?_, ?_⟩
      · have hsz : ¬ args.size ≠ L.params.size := by
          rw [← Array.length_toList (xs := L.params),q4,← hlen,ha.1]; simp
        show Sem.run C.P _ w = _
        simp only [Instr.yield,Sem.run_bind,lg hL,Result.andThen_ok,hsz,if_false,Sem.run_pure,aco,q4]
      · rw [q5,q6]
        refine roundIn_of_wpIn trivial ?_
        have hSt : St C (C.env vs) (.of w.heap.size) .e .lf fr0' hp μ F { tmps := u0 L.tmps (ps.zip args.toList),defers := [] } w := by
          refine ⟨fm.e,fun t=>?_,hH, ?_,⟨[],rfl,trivial⟩⟩
          · show ai w F μ (sv 0 (look C .e t) .lf fr0') _
            have e : look C .e t = idxOf t C.vars 0 := rfl
            rw [e]
            rcases jH (l := C.vars) (t := t) (i := 0) with ⟨j,hj⟩ | hj
            · rw [hj]; exact k1 t j hj
            · rw [hj]; exact .uu _
          · show C.nt ≤ (u0 L.tmps (ps.zip args.toList)).size
            rw [k2]; exact hnt'
        refine (a5s (r := some m.bq) (n := n) X x (by rw [hx]; exact fun z hz=>(by cases hz))).1 (s0 := .of 0) (by simp) hRa' ⟨μ,F,hSt,fV.refl _ _ _ _⟩ (fun g' sk' fr1' h1' a1 w1 e S1=>?_) (fun id fr2 hp2 a' w' e _=>by cases e) (fun l fr2 hp2 a' w' e _=>by cases e) (fun fr2 hp2 a' w' e _=>by cases e)
        have e1 : ab.ok fr1' h1' = .ok fr1 h1 := e
        cases e1
        obtain ⟨μ1,F1,S1,E1⟩ := S1.drop
        have hpr1 : h1.pr = hp.pr := E1.ext.pr
        obtain ⟨L1,hL1,hrel1,H1⟩ := su S1.h hB1 (by rw [hpr1]; exact hpr) (E1.ext.mu b m hm)
        refine ⟨_,xV hL1 hrel1.2.2.2.1, ?_⟩
        obtain ⟨p1,p2⟩ := H1 (L' := { L1 with state := .busy }) hset2 ⟨hrel1.1,hrel1.2.1,hrel1.2.2.1,rfl⟩
        have S2 : At C vs (.of 0) μ F hp w .e .lf fr1 h2 a1 { w1 with heap := w1.heap.setIfInBounds m.bq (.loop { L1 with state := .busy }) } :=
          ⟨μ1,F1,⟨S1.gi,fun t=>(S1.sl t).ext S1.h p2,p1,S1.nt,S1.df.ext p2⟩,E1.trans (.of p2 fun b hb=>.inl hb)⟩
        refine (a5s (r := some m.bq) (n := n) X y (by rw [hy]; exact fun z hz=>(by cases hz))).1 (s0 := .of 0) hRb0 hRb S2 (fun g' sk' fr' hp' a' w' e S'=>?_) (fun id fr' hp' a' w' e S'=>?_) (fun l fr' hp' a' w' e S'=>?_) (fun fr' hp' a' w' e S'=>?_)
        · have e0 : Rb = .ok fr' hp' := e.symm
          rcases hway with ⟨z,z1,z2⟩ | ⟨z,z1,z2⟩ | ⟨id,z,z1,z2⟩ | ⟨l,z,z1,z2⟩ <;> rw [e0] at z <;> cases z
          subst z2
          exact kS S'.drop hm hpr hB3 hset4 none (.inl ⟨z1,rfl⟩)
        · have e0 := lM hRb0 e
          rcases hway with ⟨z,z1,z2⟩ | ⟨z,z1,z2⟩ | ⟨id',z,z1,z2⟩ | ⟨l,z,z1,z2⟩ <;> rw [e0] at z
          · cases z
          · cases z
          · injection z with z3 z4 z5
            subst z4; subst z5
            have : id = id' := by omega
            subst this
            subst z2
            exact kS S' hm hpr hB3 hset4 _ (.inr (.inr (.inl ⟨id,z1,rfl⟩)))
          · injection z with z3; omega
        · have e0 := lM hRb0 e
          rcases hway with ⟨z,z1,z2⟩ | ⟨z,z1,z2⟩ | ⟨id',z,z1,z2⟩ | ⟨l',z,z1,z2⟩ <;> rw [e0] at z
          · cases z
          · cases z
          · injection z with z3; omega
          · injection z with z3 z4 z5
            subst z4; subst z5
            have : l = l' := by omega
            subst this
            subst z2
            exact kS S' hm hpr hB3 hset4 _ (.inr (.inr (.inr ⟨l,z1,rfl⟩)))
        · have e0 : Rb = .ret fr' hp' := e.symm
          rcases hway with ⟨z,z1,z2⟩ | ⟨z,z1,z2⟩ | ⟨id,z,z1,z2⟩ | ⟨l,z,z1,z2⟩ <;> rw [e0] at z <;> cases z
          subst z2
          exact kS S' hm hpr hB3 hset4 _ (.inr (.inl ⟨z1,rfl⟩))
    | _=>exact ah hR h
inductive uh : Env → Nat → Nat → gP → Prop
  | mk {C : Cx} {vs : Vs} {i : Nat} (X : a0C C vs) (hv : vs C.self = C.nt :: C.vars) : uh (C.env vs) C.self i (zf C i)
theorem akD {V : Env} {f i : Nat} {Y : gP} (hY : uh V f i Y) {M : Mem} (ok : cL M) {R : ab} (hR : R ≠ .fail) {b : Nat} {l : Row} {hp : Hp} {fr0 : Fr} {k : AV → Hp → ab} (hB : hp.at b = .loop 0 f i fr0) (hpr : b ∉ hp.pr)
    (h : (ab.rec (motive := fun _=>ab) (fun fr1 h1=>Hp.rec (motive := fun _=>ab) (fun _ _ pr rb=>ab0 M b pr rb Y fr1 h1 k) hp) (fun _ _ _=>.fail) (fun _ _=>.fail) (fun _ _=>.fail) .fail (Y.f fr0 l hp) : ab) = R) :
    ∃ v hp',k v hp' = R ∧ vB V b l hp v hp' := by
  cases hY with
  | mk X hv=>exact ahS X hv ok hR hB hpr h
theorem acP {C : Cx} {V : Env} (ok : cL C.M) (hy : ∀ p ∈ C.yl,uh V p.1 p.2.1 p.2.2) : Yields C V := by
  intro b l hp k R hR h
  unfold ahQ at h
  have key : ∀ X : ab,kX b hp X = uO b hp.pr X := fun X=>by cases hp; rfl
  obtain ⟨hpr,h1⟩ := pF hR ((key _).symm.trans h)
  have h2 := et ok hR h1
  obtain ⟨st,f,i,fr0,hB,h3⟩ := mZ hR h2
  obtain ⟨hst,h4⟩ := an hR h3
  rw [aC] at hst
  subst hst
  have hor : ahP C f i = nM ∨ uh V f i (ahP C f i) := by
    unfold ahP
    revert hy
    generalize C.yl = L
    intro hy
    induction L with
    | nil=>exact .inl rfl
    | cons p L ih=>
      have ih := ih fun q hq=>hy q (List.mem_cons_of_mem _ hq)
      have hp := hy p (List.mem_cons_self ..)
      show (Bool.rec (motive := fun _=>gP) (List.rec (motive := fun _=>gP) nM (fun a _ ih=>Bool.rec (motive := fun _=>gP) ih (Bool.rec (motive := fun _=>gP) ih a.2.2 (Nat.beq a.2.1 i)) (Nat.beq a.1 f)) L) (Bool.rec (motive := fun _=>gP) (List.rec (motive := fun _=>gP) nM (fun a _ ih=>Bool.rec (motive := fun _=>gP) ih (Bool.rec (motive := fun _=>gP) ih a.2.2 (Nat.beq a.2.1 i)) (Nat.beq a.1 f)) L) p.2.2 (Nat.beq p.2.1 i)) (Nat.beq p.1 f) : gP) = nM ∨ uh V f i (Bool.rec (motive := fun _=>gP) (List.rec (motive := fun _=>gP) nM (fun a _ ih=>Bool.rec (motive := fun _=>gP) ih (Bool.rec (motive := fun _=>gP) ih a.2.2 (Nat.beq a.2.1 i)) (Nat.beq a.1 f)) L) (Bool.rec (motive := fun _=>gP) (List.rec (motive := fun _=>gP) nM (fun a _ ih=>Bool.rec (motive := fun _=>gP) ih (Bool.rec (motive := fun _=>gP) ih a.2.2 (Nat.beq a.2.1 i)) (Nat.beq a.1 f)) L) p.2.2 (Nat.beq p.2.1 i)) (Nat.beq p.1 f))
      cases e1 : Nat.beq p.1 f with
      | false=>exact ih
      | true=>
        cases e2 : Nat.beq p.2.1 i with
        | false=>exact ih
        | true=>
          rw [aC] at e1 e2
          rw [← e1,← e2]
          exact .inr hp
  rcases hor with e | hY
  · rw [e] at h4; exact ah hR h4
  · exact akD hY ok hR hB hpr h4
theorem akd : ∀ (c : Code),(dV c = [] → ∀ i,gC i c = none) ∧ ((dV c).length ≤ 1 → ∀ z ∈ dV c,gC (z.2.1.getD 0 0) c = some (z.2.1.toList,z.2.2.1,z.2.2.2)) := by
  intro c
  have two : ∀ (a b : Code) (i : Nat),(dV a = [] → ∀ i,gC i a = none) ∧ ((dV a).length ≤ 1 → ∀ z ∈ dV a,gC (z.2.1.getD 0 0) a = some (z.2.1.toList,z.2.2.1,z.2.2.2)) → (dV b = [] → ∀ i,gC i b = none) ∧ ((dV b).length ≤ 1 → ∀ z ∈ dV b,gC (z.2.1.getD 0 0) b = some (z.2.1.toList,z.2.2.1,z.2.2.2)) →
      (dV a ++ dV b = [] → (Option.rec (motive := fun _=>Option (List Nat × Code × Code)) (gC i b) some (gC i a) : Option _) = none) ∧ ((dV a ++ dV b).length ≤ 1 → ∀ z ∈ dV a ++ dV b,(Option.rec (motive := fun _=>Option (List Nat × Code × Code)) (gC (z.2.1.getD 0 0) b) some (gC (z.2.1.getD 0 0) a) : Option _) = some (z.2.1.toList,z.2.2.1,z.2.2.2)) := by
    intro a b i ⟨a1,a2⟩ ⟨b1,b2⟩
    refine ⟨fun h=>?_,fun h z hz=>?_⟩
    · obtain ⟨h1,h2⟩ := List.append_eq_nil_iff.1 h
      rw [a1 h1 i]; exact b1 h2 i
    · rw [List.length_append] at h
      rcases List.mem_append.1 hz with hz | hz
      · rw [a2 (by omega) z hz]
      · have : dV a = [] := List.length_eq_zero_iff.1 (by have := List.length_pos_of_mem hz; omega)
        rw [a1 this]; exact b2 (by omega) z hz
  induction c with
  | seq a b iha ihb=>
    have e : dV (.seq a b) = dV a ++ dV b := rm _ _
    rw [e]
    exact ⟨fun h i=>(two a b i iha ihb).1 h,fun h z hz=>(two a b 0 iha ihb).2 h z hz⟩
  | cond o a b iha ihb=>
    have e : dV (.cond o a b) = dV a ++ dV b := rm _ _
    rw [e]
    exact ⟨fun h i=>(two a b i iha ihb).1 h,fun h z hz=>(two a b 0 iha ihb).2 h z hz⟩
  | block id b ih=>exact ih
  | loop b ih=>exact ih
  | scope b ih=>exact ih
  | rangeFunc f ps a b iha ihb=>
    have e : dV (.rangeFunc f ps a b) = (f,ps,a,b) :: (dV a ++ dV b) := congrArg (_ :: ·) (rm _ _)
    rw [e]
    refine ⟨(fun h=>by cases h),fun h z hz=>?_⟩
    have h0 : (dV a ++ dV b) = [] := List.length_eq_zero_iff.1 (by rw [List.length_cons] at h; omega)
    rw [h0,List.mem_singleton] at hz
    subst hz
    show (Bool.rec (motive := fun _=>Option (List Nat × Code × Code)) (gC (ps.getD 0 0) b) (some (ps.toList,a,b)) (Nat.beq (ps.getD 0 0) (ps.getD 0 0)) : Option _) = _
    rw [show Nat.beq (ps.getD 0 0) (ps.getD 0 0) = true from by rw [aC]]
  | _=>exact ⟨fun _ _=>rfl,fun _ z hz=>(by cases hz)⟩
theorem a2T {w : World} {F : Nat → Prop} {μ : Mu} {u l l2 : Row} {a n m : Nat} {vf : Value} {as : Array Value} (hc : ai w F μ (.x 3 u a n m) vf) (hA : kM w F μ l as) (q2 : len l2 = len u + len l) (q3 : ∀ i,nth l2 i = if i < n then nth u i else if i < n + len l then nth l (i - n) else nth u (i - len l)) :
    ∃ fs cs,vf = .func (.func a) fs cs ∧ kM w F μ l2 (fs ++ as ++ cs) := by
  cases hc with
  | @fn _ _ _ _ _ fs cs us e1 e2 e3 hu hv hx=>
    refine ⟨fs,cs,rfl, ?_,fun j u' hj=>?_⟩
    · rw [q2,hA.1,e3]; simp only [Array.size_append]; omega
    · have hls : len l = as.size := hA.1
      rw [q3]
      by_cases c1 : j < n
      · rw [if_pos c1]
        rw [Array.append_assoc,Array.getElem?_append_left (by omega),hu j c1] at hj
        cases hj
        exact hx j (by omega)
      · rw [if_neg c1]
        by_cases c2 : j < n + len l
        · rw [if_pos c2]
          rw [Array.getElem?_append_left (by rw [Array.size_append]; omega),Array.getElem?_append_right (by omega),e1] at hj
          exact hA.2 _ _ hj
        · rw [if_neg c2]
          rw [Array.getElem?_append_right (by rw [Array.size_append]; omega),Array.size_append,e1,← hls] at hj
          have hjm : j - (n + len l) < m := by
            rcases Nat.lt_or_ge (j - (n + len l)) m with q | q
            · exact q
            · rw [Array.getElem?_eq_none (by omega)] at hj; cases hj
          rw [hv _ hjm] at hj
          cases hj
          have hix : j - len l = n + (j - (n + len l)) := by omega
          rw [hix]
          exact hx _ (by omega)
theorem akq {C : Cx} {V : Env} {s0 : kN} {g : G} {sk : Row} {fr : Fr} {hp : Hp} {μ : Mu} {F : Nat → Prop} {a : Act} {w : World} (S : St C V s0 g sk fr hp μ F a w) : St C V s0 .e .lf fr hp μ F a w := by
  refine ⟨fm.e,fun t=>?_,S.h,S.nt,S.df⟩
  have e : look C .e t = idxOf t C.vars 0 := rfl
  show ai w F μ (sv 0 (look C .e t) .lf fr) _
  rw [e]
  rcases jH (l := C.vars) (t := t) (i := 0) with ⟨j,hj⟩ | hj
  · rw [hj]
    have h1 := S.sl t
    have hl : look C g t = .f j := by
      rw [look_eq]
      rcases jV (z := idxOf t C.vars 0) (t := t) (l := g.m) with ⟨x,p1,p2,_⟩ | ⟨_,p2⟩
      · have := S.gi.nv x p1
        rw [p2,tK hj] at this; cases this
      · rw [p2]; exact hj
    unfold sig at h1
    rw [hl] at h1
    exact h1
  · rw [hj]; exact .uu _
theorem a01 {s0 : kN} {h : Hp} {μ : Mu} {F : Nat → Prop} {w : World} : ∀ {ds : List Deferred},jj s0 h μ F w ds → ∀ d ∈ ds,∃ r,d.target = .collected r ∧ r < w.heap.size
  | [],_,_,hd=>(by cases hd)
  | _ :: _,⟨⟨r,h1,_,h3,_⟩,hr⟩,d',hd=>by
    rcases List.mem_cons.1 hd with rfl | hd
    · exact ⟨r,h1,h3⟩
    · exact a01 hr d' hd
theorem oS {P : Program} {w : World} {l : Nat} {L : Loop} (h : w.heap[l]? = some (.loop L)) (hs : L.state = .ready ∨ L.state = .done) : (Instr.endLoop l).run P w = .ok L.pending { w with heap := w.heap.setIfInBounds l (.loop { L with state := .exhausted }) } := by
  rcases hs with hs | hs <;> simp [Instr.endLoop,lg h,setObj,Sem.run,h,hs]
theorem yZ {P : Program} {w : World} {f : FuncId} {T : Array Value} {ps : Array Tmp} {x y : Code} : (Instr.enterLoop f T ps x y none).run P w = .ok (w.heap.size + 1,[{ target := .collected w.heap.size,args := #[] }]) { w with heap := (w.heap.push (.deferred (some []))).push (.loop { state := .ready,pending := none,fn := f,tmps := T,params := ps,assign := x,body := y,defers := w.heap.size }) } := by
  simp [Instr.enterLoop,newObj,Sem.run]
  rfl
section
variable {C : Cx} {vs : Vs} (X : a0C C vs) (hfn : ∀ p ∈ C.fn,ao (C.env vs) p.1 p.2) (hv : vs C.self = C.nt :: C.vars)
include X hfn hv
theorem bw.rangeFunc {fn : Func} {c : Code} (hself : C.P.funcs[C.self]? = some fn) (hbody : fn.body = some c) {n : Nat} {f : Operand} {ps : Array Tmp} {x y : Code} (hrf : gC (ps.getD 0 0) c = some (ps.toList,x,y)) : bw C vs none n (.rangeFunc f ps x y) := by
  intro s0 μ0 F0 h0 w0 g k ex rt sk fr hp R a w Q hR h ⟨μ,F,S,E⟩ hN hE hG hT
  have h1 := bm hR (C := C) (g := g) (x := f) (sk := sk) (fr := fr) (k := fun fv=>fv.onX fun g u a n m=>au (Nat.beq g 3) ((br C.M).f hp (.loop 0 C.self (ps.getD 0 0) fr) fun b hp=>
    kX b hp (ub n u (.nd (.x 5 .lf b 0 0) .lf .lf) fun l=>dB (a18 C a) l hp fun _ hp=>hp.get C.M b fun B=>B.tT fun st _ _ _=>hp.put C.M b .dead fun hp=>
      Nat.rec (motive := fun _=>ab) ((k .e).run .lf fr hp) (fun s _=>Nat.rec (motive := fun _=>ab) .fail (fun s _=>Nat.rec (motive := fun _=>ab) (rt.run .lf fr hp) (fun s _=>abD ex s fr hp) s) s) st))) h
  obtain ⟨q,u,fid,nn,mm,hfv,h2⟩ := n7 hR h1
  obtain ⟨hq,h3⟩ := an hR h2
  rw [aC] at hq
  subst hq
  obtain ⟨h1',h4,hset1,hlt1⟩ := vK X.ok (hp := hp) hR rfl rfl h3
  have key : ∀ (h : Hp) (b : Nat) (Y : ab),kX b h Y = uO b h.pr Y := fun h b Y=>by cases h; rfl
  obtain ⟨hpr1,h5⟩ := pF hR ((key _ _ _).symm.trans h4)
  obtain ⟨l2,h6,q1,q2,q3⟩ := qT hR h5
  obtain ⟨hcan,v,hp2,h7,hd⟩ := qS hR (a19 hfn fid) h6
  have h8 := et X.ok hR h7
  obtain ⟨st,f2,i2,fr2,hB2,h9⟩ := mZ hR h8
  obtain ⟨h3',hset3,_,h10⟩ := eu X.ok hR h9
  refine wpIn_rangeFunc fun fnn _=>?_
  let L : Loop := { state := .ready,pending := none,fn := fnn,tmps := a.tmps,params := ps,assign := x,body := y,defers := w.heap.size }
  let wa : World := { w with heap := w.heap.push (.deferred (some [])) }
  let w1 : World := { w with heap := (w.heap.push (.deferred (some []))).push (.loop L) }
  let m : Mp := ⟨w.heap.size + 1,0,0⟩
  have hnF : ¬ F m.bq := fun hF=>by have := S.h.nC _ hF; have e : m.bq = w.heap.size + 1 := rfl; omega
  have hka : ∀ B,B < w.heap.size → wa.heap[B]? = w.heap[B]? := fun B hB=>by
    show (w.heap.push _)[B]? = _
    rw [Array.getElem?_push,if_neg (by omega)]
  have hsa : wa.heap.size = w.heap.size + 1 := by show (w.heap.push _).size = _; rw [Array.size_push]
  have Ha : aN (C.env vs) μ F hp wa := S.h.grow (by omega) hka (fun _ h=>h) (fun _ h=>.inl h) fun B hB=>by have := S.h.nC B hB; omega
  have Ea : Ext μ F hp w μ F hp wa := ⟨fun _ _ h=>h,fun _ h=>h,by omega,fun B hB _=>hka B hB,fun _ h=>.inr h,fun _ h=>.inr h,fun _ h=>.inl h,fun _ _ h=>.inl h,Nat.le_refl _,rfl,rfl,⟨rfl,rfl⟩⟩
  have Sd := akq S
  have hid : μ hp.nx = none := pE S.h
  have hw1 : w1.heap = wa.heap.push (.loop L) := rfl
  have hw1s : w1.heap.size = w.heap.size + 2 := by rw [hw1,Array.size_push,hsa]
  have hk1 : ∀ B,B < w.heap.size → w1.heap[B]? = w.heap[B]? := fun B hB=>by
    rw [hw1,Array.getElem?_push,if_neg (by omega)]; exact hka B hB
  obtain ⟨H1,E1⟩ := Ha.new (w' := w1) (B := .loop 0 C.self (ps.getD 0 0) fr) (m := m) hid hw1 hset1 hlt1 hsa.symm ⟨m,L,bc _ _ _,by
      show w1.heap[w.heap.size + 1]? = _
      rw [hw1,Array.getElem?_push,if_pos hsa.symm],hnF,⟨fn,c,ps.toList,x,y,hself,hbody,hrf,rfl,rfl,rfl⟩,by
      show (vs C.self).headD 0 ≤ a.tmps.size
      rw [hv]; exact S.nt,fun t j e=>by
      have e' : idxOf t C.vars 0 = .f j := by
        have e : idxOf t (vs C.self).tail 0 = .f j := e
        rw [hv] at e; exact e
      have h1 := Sd.sl t
      have h2 : sig C .e .lf fr t = sv 0 (idxOf t C.vars 0) .lf fr := rfl
      rw [h2,e'] at h1
      have h3 : ai w F μ (fr.at j) (a.tmps.getD t undef) := h1
      exact h3.mono (fun B hB=>hk1 B (S.h.nC B hB)) (fun _ h=>h) (gI m hid),rfl,rfl⟩
  have Ea1 := Ea.trans E1
  have hc := tV X.gl (a := a) S.h.rO f (fun t _=>S.sl t)
  rw [hfv] at hc
  have hA : kM w1 F (eK μ hp.nx m) (.nd (.x 5 .lf hp.nx 0 0) .lf .lf) #[.func (.yield (w.heap.size + 1)) #[] #[]] := by
    refine ⟨rfl,fun i u hi=>?_⟩
    cases i with
    | zero=>
      have : u = .func (.yield (w.heap.size + 1)) #[] #[] := by simpa using hi.symm
      subst this
      exact .yld (m := m) (bc _ _ _)
    | succ i=>simp at hi
  obtain ⟨fs,cs,hfe,hargs⟩ := a2T (hc.ext S.h Ea1) hA q2 q3
  refine ⟨w.heap.size + 1,[{ target := .collected w.heap.size,args := #[] }],w1,{ target := .fn (.func fid) cs,args := fs ++ #[.func (.yield (w.heap.size + 1)) #[] #[]] },w1,fid,fs ++ #[.func (.yield (w.heap.size + 1)) #[] #[]] ++ cs,w1,yZ, ?_,fun _ _=>trivial, ?_,(fun h=>by cases h), ?_⟩
  · show (Deferred.ofValue (a.eval f) (#[Operand.const (.func (.yield (w.heap.size + 1)) #[] #[])].map a.eval)).run C.P w1 = _
    rw [hfe]
    simp [Deferred.ofValue,Act.eval]
  · exact jN hcan _ _
  · refine wh ((hd w1 (eK μ hp.nx m) F _ (n - 1) H1 hargs).mono fun e w3 ⟨xx,e1,μ2,F2,hv2,hids,H2,E2⟩=>?_)
    subst e1
    have hm2 : μ2 hp.nx = some m := E2.mu _ _ (bc _ _ _)
    have hpr2 : hp2.pr = h1'.pr := E2.pr
    have hprb : hp.nx ∉ hp2.pr := by rw [hpr2]; exact hpr1
    obtain ⟨L2,hL2,hrel2,_⟩ := su H2 hB2 hprb hm2
    let w4 : World := { w3 with heap := w3.heap.setIfInBounds m.bq (.loop { L2 with state := .exhausted }) }
    obtain ⟨H3,E3⟩ := H2.set (w' := w4) (B := .dead) (by rw [hB2]; exact trivial) hprb hm2 (by show (w3.heap.setIfInBounds _ _).size = _; simp) (fun X hX=>by
      show (w3.heap.setIfInBounds m.bq _)[X]? = _
      rw [Array.getElem?_setIfInBounds,if_neg (Ne.symm hX)]) hset3 trivial
    have E23 := E2.trans E3
    have Et := Ea1.trans E23
    have hwb1 : ¬ WB h1' (eK μ hp.nx m) w.heap.size := fun ⟨b',m',_,hm',e⟩=>by
      by_cases eb : b' = hp.nx
      · subst eb
        rw [bc] at hm'; cases hm'
        have : m.bq = w.heap.size + 1 := rfl
        omega
      · rw [dC μ m eb] at hm'
        have := (S.h.kR _ _ hm').2
        omega
    have EC : fV μ F hp w μ2 F2 h3' w4 := .of Et fun b hb=>by
      rcases hids b hb with h | h
      · by_cases eb : b = hp.nx
        · exact .inr (by omega)
        · rw [dC μ m eb] at h; exact .inl h
      · exact .inr (Nat.le_trans hset1.nx h)
    have SA : At C vs s0 μ0 F0 h0 w0 .e .lf fr h3' { a with defers := [{ target := .collected w.heap.size,args := #[] }] ++ a.defers } w4 := by
      refine ⟨μ2,F2,⟨fm.e,fun t=>(Sd.sl t).ext S.h Et,H3,S.nt, ?_⟩,E.trans EC⟩
      obtain ⟨ms,hms,hmk⟩ := S.df
      refine ⟨{ target := .collected w.heap.size,args := #[] } :: ms,by rw [hms]; rfl,⟨w.heap.size,rfl,E.ext.size,by have := E23.size; omega, ?_,fun hw=>?_,fun hF=>?_,fun d' hd' e=>?_⟩,hmk.ext Et⟩
      · rw [E23.keep w.heap.size (by omega) fun ho=>hwb1 ho.wb,hw1,Array.getElem?_push,if_neg (by omega)]
        show (w.heap.push _)[w.heap.size]? = _
        rw [Array.getElem?_push,if_pos rfl]
      · rcases E23.wb _ hw with h | h
        · omega
        · exact hwb1 h
      · rcases E23.pR _ hF with h | h | h
        · have := S.h.nC _ h; omega
        · omega
        · exact hwb1 h
      · obtain ⟨r,r1,r2⟩ := a01 hmk d' hd'
        rw [r1] at e
        cases e; omega
    cases st with
    | zero=>
      have hs : L2.state = .ready ∧ L2.pending = none := hrel2.2.2.2
      refine ⟨L2.pending,w4,oS hL2 (.inl hs.1), ?_⟩
      rw [hs.2]
      exact hN .e .lf fr h3' _ w4 h10 SA
    | succ s=>
      cases s with
      | zero=>exact ah hR h10
      | succ s=>
        cases s with
        | zero=>
          have hs : L2.state = .done ∧ L2.pending = some .ret := hrel2.2.2.2
          refine ⟨L2.pending,w4,oS hL2 (.inr hs.1), ?_⟩
          rw [hs.2]
          exact wpIn_ret (hT fr h3' _ w4 h10 SA)
        | succ s=>
          have hs : L2.state = .done ∧ ((∃ id,s = 2 * id ∧ L2.pending = some (.exit id)) ∨ (∃ l,s = 2 * l + 1 ∧ L2.pending = some (.goto l))) := hrel2.2.2.2
          have h11 : abD ex s fr h3' = R := h10
          rw [vH] at h11
          refine ⟨L2.pending,w4,oS hL2 (.inr hs.1), ?_⟩
          rcases hs.2 with ⟨id,e1,e2⟩ | ⟨l,e1,e2⟩
          · rw [e2]
            subst e1
            exact wpIn_exit (hE id fr h3' _ w4 h11 SA)
          · rw [e2]
            subst e1
            exact wpIn_goto (hG l fr h3' _ w4 h11 SA)
end
noncomputable def xU (C : Cx) : Bool := match nP C.P.funcs.toList C.self with
  | none=>true
  | some fn=>match fn.body with
    | none=>true
    | some c=>yW c
noncomputable def qG (C : Cx) : Bool := match nP C.P.funcs.toList C.self with
  | none=>true
  | some fn=>!(fn.name == "runtime.NumGoroutine")
section
variable {C : Cx} {vs : Vs}
theorem a90 (ok : cL C.M) (gl : vT C vs) (mo : C.P.follows .mixedOrders = true) (hfn : ∀ p ∈ C.fn,ao (C.env vs) p.1 p.2) (hy : ∀ p ∈ C.yl,uh (C.env vs) p.1 p.2.1 p.2.2) : a0C C vs :=
  ⟨ok,gl,mo,aix ok hfn (acP ok hy)⟩
theorem a7a (ok : cL C.M) (gl : vT C vs) (mo : C.P.follows .mixedOrders = true) (hfn : ∀ p ∈ C.fn,ao (C.env vs) p.1 p.2) (hy : ∀ p ∈ C.yl,uh (C.env vs) p.1 p.2.1 p.2.2) (hname : qG C = true) (hv : xU C = true ∨ vs C.self = C.nt :: C.vars) : ao (C.env vs) C.self (aV C) := by
  refine ajj (a90 ok gl mo hfn hy) (fun fn hf=>?_) fun fn c n hf hc hlen z hz=>?_
  · unfold qG at hname
    have e : nP C.P.funcs.toList C.self = some fn := by rw [gr,Array.getElem?_toList]; exact hf
    rw [e] at hname
    simpa using hname
  · rcases hv with h | h
    · unfold xU at h
      have e : nP C.P.funcs.toList C.self = some fn := by rw [gr,Array.getElem?_toList]; exact hf
      rw [e] at h
      simp only [hc] at h
      rw [oN h] at hz
      cases hz
    · exact bw.rangeFunc (a90 ok gl mo hfn hy) hfn h hf hc ((akd c).2 hlen z hz)
end
section
variable {V : Env}
theorem ae : ∀ p ∈ ([] : List (Nat × aF)),ao V p.1 p.2 := fun _ h=>(by cases h)
theorem aa {f : Nat} {G : aF} {l : List (Nat × aF)} (h : ao V f G) (t : ∀ p ∈ l,ao V p.1 p.2) : ∀ p ∈ (f,G) :: l,ao V p.1 p.2 := fun p hp=>by
  rcases List.mem_cons.1 hp with rfl | hp
  · exact h
  · exact t p hp
theorem yw : ∀ p ∈ ([] : List (Nat × Nat × gP)),uh V p.1 p.2.1 p.2.2 := fun _ h=>(by cases h)
theorem a92 (nx : Nat) (pr : List Nat) (rb b : Nat) : Hp.at ⟨.lf,nx,pr,rb⟩ b = .dead := qs _ _
theorem adx {μ : Mu} {F : Nat → Prop} {nx : Nat} {pr : List Nat} {rb : Nat} {w : World} (hd : ∀ b,μ b = none) (hi : ∀ B,F B → B < w.heap.size) (hg : V.Glo w F) : aN V μ F ⟨.lf,nx,pr,rb⟩ w :=
  ⟨fun b=>by rw [a92]; exact trivial,fun b _ _ _ h=>by rw [a92] at h; exact h.elim,fun b m hm=>(by rw [hd] at hm; cases hm),hi,hg⟩
end
noncomputable section
def ly (n : Nat) : Nat → List Nat := Nat.rec (motive := fun _=>Nat → List Nat) (fun _=>[]) (fun _ ih s=>Nat.mod s 256 :: ih (Nat.div s 256)) n
def fh (l : List UInt8) : List Nat := l.map (·.toNat)
def qI : Nat := 18446744073709551615
def idxA (c : Nat) (l : List Nat) : Nat → Nat := List.rec (motive := fun _=>Nat → Nat) (fun _=>qI) (fun a _ ih i=>Bool.rec (motive := fun _=>Nat) (ih (Nat.succ i)) i (Nat.beq a c)) l
def abi (c : Nat) (l : List Nat) : Nat := List.rec (motive := fun _=>Nat) 0 (fun a _ ih=>Bool.rec (motive := fun _=>Nat) ih (Nat.succ ih) (Nat.beq a c)) l
def a7Z (m : List Nat) : List Nat → Bool := List.rec (motive := fun _=>List Nat → Bool) (fun _=>true) (fun a _ ih l=>List.rec (motive := fun _=>Bool) false (fun b r _=>Bool.rec (motive := fun _=>Bool) false (ih r) (Nat.beq a b)) l) m
def ahC (m : List Nat) (l : List Nat) : Nat → Nat := List.rec (motive := fun _=>Nat → Nat) (fun i=>Bool.rec (motive := fun _=>Nat) qI i (a7Z m [])) (fun a r ih i=>Bool.rec (motive := fun _=>Nat) (ih (Nat.succ i)) i (a7Z m (a :: r))) l
def ady (l : List Nat) : Nat → Option Nat := List.rec (motive := fun _=>Nat → Option Nat) (fun acc=>some acc) (fun b _ ih acc=>Bool.rec (motive := fun _=>Option Nat) none (Bool.rec (motive := fun _=>Option Nat) none (ih (Nat.add (Nat.mul acc 10) (Nat.sub b 48))) (Nat.ble b 57)) (Nat.ble 48 b)) l
def a3k (l : List Nat) : Option Nat := List.rec (motive := fun _=>Option Nat) none (fun b r _=>ady (b :: r) 0) l
def atoA (l : List Nat) : Option Nat := List.rec (motive := fun _=>Option Nat) none (fun b r _=>Bool.rec (motive := fun _=>Option Nat) (Bool.rec (motive := fun _=>Option Nat) (a3k (b :: r)) (a3k r) (Nat.beq b 43)) (Option.rec (motive := fun _=>Option Nat) none (fun m=>some (Nat.mod (Nat.sub big m) big)) (a3k r)) (Nat.beq b 45)) l
def nN (l : Row) (k : AV → Row → ab) : ab := Tr.rec (motive := fun _=>ab) .fail (fun v _ r _ _=>k v r) l
def a2S (l : Row) (k : ab) : ab := Tr.rec (motive := fun _=>ab) k (fun _ _ _ _ _=>.fail) l
def idxF : aF := ⟨fun l hp=>nN l fun a r=>nN r fun b r=>a2S r (a.eE fun s n=>b.bO fun i c=>au (Nat.beq i 4) (au (Nat.ble n 4294967280) (bQ 3 (idxA c (ly n s) 0) fun v=>.val v hp)))⟩
def cntF : aF := ⟨fun l hp=>nN l fun a r=>nN r fun b r=>a2S r (a.eE fun s n=>b.eE fun t m=>au (Nat.beq m 1) (au (Nat.ble n 4294967280) (bQ 3 (abi t (ly n s)) fun v=>.val v hp)))⟩
def cntG (F : aF) : aF := ⟨fun l hp=>nN l fun _ r=>nN r fun b _=>b.eE fun _ m=>when (Nat.beq m 1) (cntF.f l hp) (F.f l hp)⟩
def subF : aF := ⟨fun l hp=>nN l fun a r=>nN r fun b r=>a2S r (a.eE fun s n=>b.eE fun t m=>au (Nat.ble n 4294967280) (bQ 3 (ahC (ly m t) (ly n s) 0) fun v=>.val v hp))⟩
def atoF (T : Nat) : aF := ⟨fun l hp=>nN l fun a r=>a2S r (a.eE fun s n=>au (Nat.ble n 18) (Option.rec (motive := fun _=>ab) (.val (.bu (.nd (.int 3 0) .lf (.nd (.x 12 .lf T 0 0) .lf .lf)) 2) hp) (fun m=>bQ 3 m fun v=>.val (.bu (.nd v .lf (.nd (.x 11 .lf 0 0 0) .lf .lf)) 2) hp) (atoA (ly n s))))⟩
structure Dfd where
  ia : Nat
  a : Array Oper
  id : Nat
  o0 : Oper
  o1 : Oper
  g : Nat
  fs : Array Operand
  uZ : Array Operand
  t : Nat
  t' : Nat
  as : Array Operand
  ts : Array TypeId
  rest : Code
def opsD (o0 o1 : Oper) : Option (Nat × Array Operand × Array Operand × Nat × Nat × Array Operand × Array TypeId) := match o0.op,o0.dst,o0.guard,o1.op,o1.dst,o1.guard with
  | .makeFunc (.func g) fs uZ,some t,none,.defer ⟨.value (.tmp t'),as,ts⟩,none,none=>some (g,fs,uZ,t,t',as,ts)
  | _,_,_,_,_,_=>none
def anC (l : List Oper) : Option (Oper × Oper) := match l with
  | [x,y]=>some (x,y)
  | _=>none
def y7 (c : Code) : Option Dfd := match c with
  | .seq (.region ia a false) (.seq (.region id ops false) rest)=>(anC ops.toList).bind fun p=>(opsD p.1 p.2).map fun q=>⟨ia,a,id,p.1,p.2,q.1,q.2.1,q.2.2.1,q.2.2.2.1,q.2.2.2.2.1,q.2.2.2.2.2.1,q.2.2.2.2.2.2,rest⟩
  | _=>none
def a7R (C : Cx) (g : G) (t : Nat) : Bool := match look C g t with
  | .no=>Nat.ble (Nat.succ t) C.nt
  | _=>false
def a9P (r : ab) : ab := ab.rec (motive := fun _=>ab) (fun _ _=>.fail) (fun _ _ _=>.fail) (fun _ _=>.fail) (fun v hp=>.val v hp) .fail r
def okD (q : Dfd) : Bool := aY (Nat.beq q.fs.size 0) (aY (Nat.beq q.as.size 0) (Nat.beq q.t q.t'))
end
theorem oa : ∀ (l : List UInt8),ly l.length (aR l) = fh l
  | []=>rfl
  | b :: l=>by
    have hb : b.toNat < 256 := b.toNat_lt
    have e : aR (b :: l) = b.toNat + 256 * aR l := rfl
    show Nat.mod (aR (b :: l)) 256 :: ly l.length (Nat.div (aR (b :: l)) 256) = _
    have e1 : Nat.mod (aR (b :: l)) 256 = b.toNat := by rw [e]; show (b.toNat + 256 * aR l) % 256 = _; omega
    have e2 : Nat.div (aR (b :: l)) 256 = aR l := by rw [e]; show (b.toNat + 256 * aR l) / 256 = _; omega
    rw [e1,e2,oa l]; rfl
theorem yi (a b : UInt8) : Nat.beq a.toNat b.toNat = (a == b) := by
  rw [Bool.eq_iff_iff,aC,beq_iff_eq]
  exact ⟨fun h=>UInt8.toNat_inj.1 h,fun h=>by rw [h]⟩
theorem a3Z (c : UInt8) : ∀ (l : List UInt8) (i : Nat),idxA c.toNat (fh l) i = if Lib.indexByte l c < 0 then qI else i + (Lib.indexByte l c).toNat
  | [],i=>rfl
  | b :: l,i=>by
    have e : idxA c.toNat (fh (b :: l)) i = (Bool.rec (motive := fun _=>Nat) (idxA c.toNat (fh l) (Nat.succ i)) i (Nat.beq b.toNat c.toNat)) := rfl
    rw [e,da,yi,a3Z c l]
    have hg : ∀ l : List UInt8,-1 ≤ Lib.indexByte l c := fun l=>by
      induction l with
      | nil=>simp [Lib.indexByte]
      | cons b l ih => simp only [Lib.indexByte]; split; · omega
                       · split <;> omega
    have := hg l
    simp only [Lib.indexByte]
    by_cases h : (b == c) = true
    · simp [h]
    · simp only [h,if_false,Bool.false_eq_true]
      by_cases h2 : Lib.indexByte l c = -1
      · simp [h2]
      · have : (Lib.indexByte l c == -1) = false := by simpa using h2
        simp only [this,Bool.false_eq_true,if_false]
        have hn : ¬ Lib.indexByte l c < 0 := by omega
        have hn2 : ¬ Lib.indexByte l c + 1 < 0 := by omega
        rw [if_neg hn,if_neg hn2]
        show Nat.succ i + _ = _
        omega
theorem a3h (c : UInt8) : ∀ (l : List UInt8),abi c.toNat (fh l) = Lib.countByte l c
  | []=>rfl
  | b :: l=>by
    have e : abi c.toNat (fh (b :: l)) = (Bool.rec (motive := fun _=>Nat) (abi c.toNat (fh l)) (Nat.succ (abi c.toNat (fh l))) (Nat.beq b.toNat c.toNat)) := rfl
    rw [e,da,yi,a3h c l]
    simp only [Lib.countByte,List.count_cons]
    by_cases h : (b == c) = true <;> simp [h]
theorem xM : ∀ (m l : List UInt8),a7Z (fh m) (fh l) = m.isPrefixOf l
  | [],l=>rfl
  | a :: m,[]=>rfl
  | a :: m,b :: l=>by
    have e : a7Z (fh (a :: m)) (fh (b :: l)) = (Bool.rec (motive := fun _=>Bool) false (a7Z (fh m) (fh l)) (Nat.beq a.toNat b.toNat)) := rfl
    rw [e,da,yi,xM m l]
    simp only [List.isPrefixOf]
    by_cases h : (a == b) = true <;> simp [h]
theorem a5I (m : List UInt8) : ∀ (l : List UInt8) (i : Nat),ahC (fh m) (fh l) i = if Lib.index l m < 0 then qI else i + (Lib.index l m).toNat
  | [],i=>by
    have e : ahC (fh m) (fh []) i = (Bool.rec (motive := fun _=>Nat) qI i (a7Z (fh m) (fh []))) := rfl
    rw [e,da,xM]
    cases m <;> simp [Lib.index,List.isPrefixOf]
  | b :: l,i=>by
    have e : ahC (fh m) (fh (b :: l)) i = (Bool.rec (motive := fun _=>Nat) (ahC (fh m) (fh l) (Nat.succ i)) i (a7Z (fh m) (fh (b :: l)))) := rfl
    rw [e,da,xM,a5I m l]
    have := Lib.index_ge l m
    simp only [Lib.index]
    by_cases h : (m.isPrefixOf (b :: l)) = true
    · simp [h]
    · simp only [h,if_false,Bool.false_eq_true]
      by_cases h2 : Lib.index l m = -1
      · simp [h2]
      · have : (Lib.index l m == -1) = false := by simpa using h2
        simp only [this,Bool.false_eq_true,if_false]
        have hn : ¬ Lib.index l m < 0 := by omega
        have hn2 : ¬ Lib.index l m + 1 < 0 := by omega
        rw [if_neg hn,if_neg hn2]
        show Nat.succ i + _ = _
        omega
section
variable {V : Env} {f : FuncId}
theorem dw {R : ab} (hR : R ≠ .fail) {l : Row} {k : AV → Row → ab} (h : nN l k = R) : ∃ v a r,l = .nd v a r ∧ k v r = R := by
  cases l with
  | lf=>exact ah hR h
  | nd v a r=>exact ⟨v,a,r,rfl,h⟩
theorem kb {R : ab} (hR : R ≠ .fail) {l : Row} {k : ab} (h : a2S l k = R) : l = .lf ∧ k = R := by
  cases l with
  | lf=>exact ⟨rfl,h⟩
  | nd v a r=>exact ah hR h
theorem args1 {w : World} {F : Nat → Prop} {μ : Mu} {v : AV} {a : Row} {args : Array Value} (h : kM w F μ (.nd v a .lf) args) : ∃ x,args = #[x] ∧ ai w F μ v x := by
  obtain ⟨h1,h2⟩ := h
  obtain ⟨l⟩ := args
  cases l with
  | nil=>cases h1
  | cons x r=>
    cases r with
    | nil=>exact ⟨x,rfl,h2 0 x rfl⟩
    | cons y r=>exact absurd h1 (by simp [len])
theorem zk {w : World} {F : Nat → Prop} {μ : Mu} {v u : AV} {a b : Row} {args : Array Value} (h : kM w F μ (.nd v a (.nd u b .lf)) args) : ∃ x y,args = #[x,y] ∧ ai w F μ v x ∧ ai w F μ u y := by
  obtain ⟨h1,h2⟩ := h
  obtain ⟨l⟩ := args
  cases l with
  | nil=>cases h1
  | cons x r=>
    cases r with
    | nil=>cases h1
    | cons y r=>
      cases r with
      | nil=>exact ⟨x,y,rfl,h2 0 x rfl,h2 1 y rfl⟩
      | cons z r=>exact absurd h1 (by simp [len])
theorem fV.grow {μ : Mu} {F : Nat → Prop} {hp : Hp} {w w' : World} (g : RowKit.Below w.heap.size w w') : fV μ F hp w μ F hp w' :=
  .of ⟨fun _ _ h=>h,fun _ h=>h,g.size,fun B hB _=>g.block B hB,fun _ h=>.inr h,fun _ h=>.inr h,fun _ h=>.inl h,fun _ _ h=>.inl h,Nat.le_refl _,rfl,rfl,⟨by rw [g.os,g.tape],g.output⟩⟩ fun _ h=>.inl h
theorem ao.known {G : aF} (hcan : Can V.P f) (h : ∀ l hp R,G.f l hp = R → R ≠ .fail → ∃ v,R = .val v hp ∧ ∀ w F μ args,V.Glo w F → kM w F μ l args → Calls V.P f args w fun e w'=>∃ x,e = .returned x ∧ RowKit.Below w.heap.size w w' ∧ ai w' F μ v x) : ao V f G := fun l hp R h1 hR=>by
  obtain ⟨v,e,H⟩ := h l hp R h1 hR
  refine ⟨hcan,v,hp,e,fun w μ F args n hH ha=>callsIn_wide.2 ((H w F μ args hH.rO ha).mono fun e w' ⟨x,e1,g,hx⟩=>⟨x,e1,μ,F,hx, ?_,.grow g⟩)⟩
  exact hH.grow g.size g.block (fun _ h=>h) (fun _ h=>.inl h) fun B hB=>Nat.lt_of_lt_of_le (hH.nC B hB) g.size
theorem iT {w : World} {F : Nat → Prop} {μ : Mu} {s n : Nat} {x : Value} (h : ai w F μ (.str s n) x) : ∃ b : ByteArray,x = .string b ∧ n = b.size ∧ s = aR b.data.toList := by
  cases h; exact ⟨_,rfl,rfl,rfl⟩
theorem kf (b : ByteArray) : ly b.size (aR b.data.toList) = fh b.data.toList := by
  have e : b.size = b.data.toList.length := rfl
  rw [e,oa]
theorem rS {i n : Nat} {k : AV → ab} : bQ i n k = k (.int i n) := by cases n <;> rfl
theorem xR {w : World} {F : Nat → Prop} {μ : Mu} {i : Int} (h1 : -1 ≤ i) (h2 : i < 9223372036854775808) : ai w F μ (.int 3 (if i < 0 then qI else 0 + i.toNat)) (.int .i64 i) := by
  by_cases h : i < 0
  · have : i = -1 := by omega
    subst this
    exact .int (k := 3) (n := qI) (by decide)
  · rw [if_neg h]
    have hn : i = (i.toNat : Int) := by omega
    have := ai.int (w := w) (F := F) (μ := μ) (k := 3) (n := 0 + i.toNat) (by show 0 + i.toNat < 18446744073709551616; omega)
    have e : (kd 3).wrap ((0 + i.toNat : Nat) : Int) = i := by
      show IntKind.i64.wrap _ = i
      rw [Nat.zero_add,wrap_i64 _ (by omega),← hn]
    rw [e] at this
    exact this
theorem rR (c : UInt8) : ∀ l : List UInt8,-1 ≤ Lib.indexByte l c ∧ Lib.indexByte l c ≤ l.length
  | []=>by simp [Lib.indexByte]
  | b :: l=>by
    have := rR c l
    simp only [Lib.indexByte,List.length_cons]
    split
    · omega
    · split <;> omega
theorem a4b (m : List UInt8) : ∀ l : List UInt8,-1 ≤ Lib.index l m ∧ Lib.index l m ≤ l.length
  | []=>by simp only [Lib.index]; split <;> simp
  | b :: l=>by
    have := a4b m l
    simp only [Lib.index,List.length_cons]
    split
    · omega
    · split <;> omega
theorem size_eq (b : ByteArray) : b.data.toList.length = b.size := rfl
theorem aku {c : Nat} (h : c < 256) : ((c : Int).toNat.toUInt8).toNat = c := by
  show (UInt8.ofNat c).toNat = c
  rw [UInt8.toNat_ofNat']; omega
theorem ajq (hcan : Can V.P f) (H : ∀ (s : ByteArray) (c : Int) (w : World),Calls V.P f #[.string s,.int .u8 c] w fun e w'=>e = .returned (.int .i64 (Lib.indexByte s.data.toList c.toNat.toUInt8)) ∧ w' = w) : ao V f idxF := by
  refine ao.known hcan fun l hp R h hR=>?_
  obtain ⟨a,_,r,rfl,h1⟩ := dw hR h
  obtain ⟨b,_,r,rfl,h2⟩ := dw hR h1
  obtain ⟨rfl,h3⟩ := kb hR h2
  obtain ⟨s,n,rfl,h4⟩ := bW hR h3
  obtain ⟨i,c,rfl,h5⟩ := cF hR h4
  obtain ⟨hi,h6⟩ := an hR h5
  obtain ⟨hn,h7⟩ := an hR h6
  rw [aC] at hi
  rw [bn] at hn
  subst hi
  rw [rS] at h7
  refine ⟨_,h7.symm,fun w F μ args _ ha=>?_⟩
  obtain ⟨x,y,rfl,hx,hy⟩ := zk ha
  obtain ⟨b,rfl,rfl,rfl⟩ := iT hx
  obtain ⟨hc,rfl⟩ := cY hy
  have hw : T 4 c = c := iW 4 c hc (.inl (by decide))
  rw [hw]
  refine (H b c w).mono fun e w' ⟨e1,e2⟩=>⟨_,e1,by rw [e2]; exact .refl _ _, ?_⟩
  have := a3Z ((c : Int).toNat.toUInt8) b.data.toList 0
  rw [aku hc] at this
  rw [kf,this]
  obtain ⟨h1,h2⟩ := rR ((c : Int).toNat.toUInt8) b.data.toList
  rw [size_eq] at h2
  exact xR h1 (by omega)
theorem aiH (hcan : Can V.P f) (H : ∀ (s : ByteArray) (c : UInt8) (w : World),Calls V.P f #[.string s,.string ⟨#[c]⟩] w fun e w'=>e = .returned (.int .i64 (Lib.countByte s.data.toList c)) ∧ w' = w) : ao V f cntF := by
  refine ao.known hcan fun l hp R h hR=>?_
  obtain ⟨a,_,r,rfl,h1⟩ := dw hR h
  obtain ⟨b,_,r,rfl,h2⟩ := dw hR h1
  obtain ⟨rfl,h3⟩ := kb hR h2
  obtain ⟨s,n,rfl,h4⟩ := bW hR h3
  obtain ⟨t,m,rfl,h5⟩ := bW hR h4
  obtain ⟨hm,h6⟩ := an hR h5
  obtain ⟨hn,h7⟩ := an hR h6
  rw [aC] at hm
  rw [bn] at hn
  rw [rS] at h7
  refine ⟨_,h7.symm,fun w F μ args _ ha=>?_⟩
  obtain ⟨x,y,rfl,hx,hy⟩ := zk ha
  obtain ⟨b,rfl,rfl,rfl⟩ := iT hx
  obtain ⟨b2,rfl,hsz,rfl⟩ := iT hy
  obtain ⟨d⟩ := b2
  obtain ⟨l2⟩ := d
  have hl : l2.length = 1 := by rw [hm] at hsz; exact hsz.symm
  obtain ⟨c,rfl⟩ := List.length_eq_one_iff.1 hl
  have e0 : aR [c] = c.toNat := by show c.toNat + 256 * 0 = _; omega
  refine (H b c w).mono fun e w' ⟨e1,e2⟩=>⟨_,e1,by rw [e2]; exact .refl _ _, ?_⟩
  show ai w' F μ (.int 3 (abi (aR [c]) _)) _
  rw [kf,e0,a3h c]
  have h2 : Lib.countByte b.data.toList c ≤ b.size := by rw [← size_eq]; exact List.count_le_length
  have := xR (w := w') (F := F) (μ := μ) (i := (Lib.countByte b.data.toList c : Nat)) (by omega) (by omega)
  rw [if_neg (by omega)] at this
  simpa using this
theorem aiI {G : aF} (hG : ao V f G) (H : ∀ (s : ByteArray) (c : UInt8) (w : World),Calls V.P f #[.string s,.string ⟨#[c]⟩] w fun e w'=>e = .returned (.int .i64 (Lib.countByte s.data.toList c)) ∧ w' = w) (hcan : Can V.P f) : ao V f (cntG G) := by
  intro l hp R h hR
  obtain ⟨a,_,r,rfl,h1⟩ := dw hR h
  obtain ⟨b,_,r,rfl,h2⟩ := dw hR h1
  obtain ⟨t,m,rfl,h3⟩ := bW hR h2
  rw [aaU] at h3
  split at h3
  · exact aiH hcan H _ _ _ h3 hR
  · exact hG _ _ _ h3 hR
theorem aks (hcan : Can V.P f) (H : ∀ (s m : ByteArray) (w : World) (F : Nat → Prop),V.Glo w F → s.size < 4294967281 → Calls V.P f #[.string s,.string m] w fun e w'=>e = .returned (.int .i64 (Lib.index s.data.toList m.data.toList)) ∧ w' = w) : ao V f subF := by
  refine ao.known hcan fun l hp R h hR=>?_
  obtain ⟨a,_,r,rfl,h1⟩ := dw hR h
  obtain ⟨b,_,r,rfl,h2⟩ := dw hR h1
  obtain ⟨rfl,h3⟩ := kb hR h2
  obtain ⟨s,n,rfl,h4⟩ := bW hR h3
  obtain ⟨t,m,rfl,h5⟩ := bW hR h4
  obtain ⟨hn,h6⟩ := an hR h5
  rw [bn] at hn
  rw [rS] at h6
  refine ⟨_,h6.symm,fun w F μ args hG ha=>?_⟩
  obtain ⟨x,y,rfl,hx,hy⟩ := zk ha
  obtain ⟨b,rfl,rfl,rfl⟩ := iT hx
  obtain ⟨b2,rfl,rfl,rfl⟩ := iT hy
  refine (H b b2 w F hG (by omega)).mono fun e w' ⟨e1,e2⟩=>⟨_,e1,by rw [e2]; exact .refl _ _, ?_⟩
  rw [kf,kf,a5I]
  obtain ⟨h1,h2⟩ := a4b b2.data.toList b.data.toList
  rw [size_eq] at h2
  exact xR h1 (by omega)
theorem a3j : ∀ (l : List UInt8) (acc : Nat),ady (fh l) acc = Lib.decFrom acc l
  | [],acc=>rfl
  | b :: l,acc=>by
    have e : ady (fh (b :: l)) acc = (Bool.rec (motive := fun _=>Option Nat) none (Bool.rec (motive := fun _=>Option Nat) none (ady (fh l) (Nat.add (Nat.mul acc 10) (Nat.sub b.toNat 48))) (Nat.ble b.toNat 57)) (Nat.ble 48 b.toNat)) := rfl
    rw [e,da,da,a3j l]
    simp only [Lib.decFrom,Lib.digitVal,bn]
    show (if 48 ≤ b.toNat then if b.toNat ≤ 57 then Lib.decFrom (acc * 10 + (b.toNat - 48)) l else none else none) = _
    by_cases h1 : 48 ≤ b.toNat
    · by_cases h2 : b.toNat ≤ 57
      · simp [h1,h2]
      · simp [h1,h2]
    · simp [h1]
theorem a3l (l : List UInt8) : a3k (fh l) = Lib.decNat l := by
  cases l with
  | nil=>rfl
  | cons b l=>
    have e : a3k (fh (b :: l)) = ady (fh (b :: l)) 0 := rfl
    rw [e,a3j]; rfl
def pY (i : Int) : Nat := (i % 18446744073709551616).toNat
theorem decFrom_lt : ∀ (l : List UInt8) (acc n : Nat),Lib.decFrom acc l = some n → n < (acc + 1) * 10 ^ l.length
  | [],acc,n,h=>by simp only [Lib.decFrom,Option.some.injEq] at h; simp; omega
  | b :: l,acc,n,h=>by
    simp only [Lib.decFrom,Lib.digitVal] at h
    split at h
    · rename_i d hd
      split at hd
      · have hd' : d = b.toNat - 48 := by simpa using hd.symm
        have := decFrom_lt l _ n h
        have h2 : acc * 10 + d + 1 ≤ (acc + 1) * 10 := by omega
        have h3 := Nat.mul_le_mul_right (10 ^ l.length) h2
        rw [List.length_cons,Nat.pow_succ]
        calc n < (acc * 10 + d + 1) * 10 ^ l.length := this
          _ ≤ (acc + 1) * 10 * 10 ^ l.length := h3
          _ = (acc + 1) * (10 ^ l.length * 10) := by rw [Nat.mul_assoc,Nat.mul_comm 10]
      · cases hd
    · cases h
theorem zA {l : List UInt8} {n : Nat} (hl : l.length ≤ 18) (h : Lib.decNat l = some n) : n < 9223372036854775808 := by
  unfold Lib.decNat at h
  split at h
  · cases h
  · have := decFrom_lt l 0 n h
    have h2 : 10 ^ l.length ≤ 10 ^ 18 := Nat.pow_le_pow_right (by omega) hl
    have h3 : (10 : Nat) ^ 18 < 9223372036854775808 := by decide
    omega
theorem ad9 (l : List UInt8) (hl : l.length ≤ 18) : atoA (fh l) = (Lib.atoi l).map pY ∧ ∀ i,Lib.atoi l = some i → -9223372036854775808 < i ∧ i < 9223372036854775808 := by
  cases l with
  | nil=>exact ⟨rfl,fun i h=>by cases h⟩
  | cons b r=>
    have e : atoA (fh (b :: r)) = (Bool.rec (motive := fun _=>Option Nat) (Bool.rec (motive := fun _=>Option Nat) (a3k (fh (b :: r))) (a3k (fh r)) (Nat.beq b.toNat 43)) (Option.rec (motive := fun _=>Option Nat) none (fun m=>some (Nat.mod (Nat.sub big m) big)) (a3k (fh r))) (Nat.beq b.toNat 45)) := rfl
    have h45 : Nat.beq b.toNat 45 = (b == 45) := yi b 45
    have h43 : Nat.beq b.toNat 43 = (b == 43) := yi b 43
    have hr : r.length ≤ 18 := by simp at hl; omega
    rw [e,da,da,a3l,a3l,h45,h43]
    simp only [Lib.atoi]
    have pos : ∀ {l : List UInt8},l.length ≤ 18 → Lib.decNat l = ((Lib.decNat l).map fun (m : Nat)=>(m : Int)).map pY ∧ ∀ i,(Lib.decNat l).map (fun (m : Nat)=>(m : Int)) = some i → -9223372036854775808 < i ∧ i < 9223372036854775808 := fun {l} hl=>by
      cases h : Lib.decNat l with
      | none=>exact ⟨rfl,fun i hi=>by cases hi⟩
      | some n=>
        have := zA hl h
        refine ⟨?_,fun i hi=>?_⟩
        · simp only [Option.map_some,pY]; congr 1; omega
        · simp only [Option.map_some,Option.some.injEq] at hi; omega
    by_cases h1 : (b == 45) = true
    · simp only [h1,if_true]
      cases h : Lib.decNat r with
      | none=>exact ⟨rfl,fun i hi=>by cases hi⟩
      | some n=>
        have := zA hr h
        refine ⟨?_,fun i hi=>?_⟩
        · simp only [Option.map_some,pY]
          show some ((18446744073709551616 - n) % 18446744073709551616) = _
          congr 1; omega
        · simp only [Option.map_some,Option.some.injEq] at hi; omega
    · simp only [h1,Bool.false_eq_true,if_false]
      by_cases h2 : (b == 43) = true
      · simp only [h2,if_true]; exact pos hr
      · simp only [h2,Bool.false_eq_true,if_false]; exact pos hl
theorem acr {w : World} {F : Nat → Prop} {μ : Mu} {i : Int} (h1 : -9223372036854775808 < i) (h2 : i < 9223372036854775808) : ai w F μ (.int 3 (pY i)) (.int .i64 i) := by
  have := ai.int (w := w) (F := F) (μ := μ) (k := 3) (n := pY i) (by show pY i < 18446744073709551616; unfold pY; omega)
  have e : (kd 3).wrap ((pY i : Nat) : Int) = i := by
    show IntKind.i64.wrap _ = i
    rw [IntKind.wrap_i64]; unfold pY; omega
  rw [e] at this
  exact this
theorem sL {w : World} {F : Nat → Prop} {μ : Mu} {a b : AV} {x y : Value} (ha : ai w F μ a x) (hb : ai w F μ b y) : ai w F μ (.bu (.nd a .lf (.nd b .lf .lf)) 2) (.tuple #[x,y]) :=
  .bu (fun i=>if i = 0 then x else y) rfl (fun i hi=>by
    have : i < 2 := hi
    rcases (by omega : i = 0 ∨ i = 1) with rfl | rfl <;> rfl) fun i hi=>by
    have : i < 2 := hi
    rcases (by omega : i = 0 ∨ i = 1) with rfl | rfl
    · exact ha
    · exact hb
theorem ail {T : Nat} (hcan : Can V.P f) (Hy : ∀ (s : ByteArray) (n : Int) (w : World),s.size ≤ 18 → Lib.atoi s.data.toList = some n → Calls V.P f #[.string s] w fun e w'=>e = .returned (.tuple #[.int .i64 n,.nilIface]) ∧ RowKit.Below w.heap.size w w')
    (Hn : ∀ (s : ByteArray) (w : World) (F : Nat → Prop),V.Glo w F → s.size ≤ 18 → Lib.atoi s.data.toList = none → Calls V.P f #[.string s] w fun e w'=>(∃ v,e = .returned (.tuple #[.int .i64 0,.iface T v])) ∧ RowKit.Below w.heap.size w w') : ao V f (atoF T) := by
  refine ao.known hcan fun l hp R h hR=>?_
  obtain ⟨a,_,r,rfl,h1⟩ := dw hR h
  obtain ⟨rfl,h2⟩ := kb hR h1
  obtain ⟨s,n,rfl,h3⟩ := bW hR h2
  obtain ⟨hn,h4⟩ := an hR h3
  rw [bn] at hn
  have key : ∀ (o : Option Nat),(Option.rec (motive := fun _=>ab) (.val (.bu (.nd (.int 3 0) .lf (.nd (.x 12 .lf T 0 0) .lf .lf)) 2) hp) (fun m=>bQ 3 m fun v=>.val (.bu (.nd v .lf (.nd (.x 11 .lf 0 0 0) .lf .lf)) 2) hp) o : ab) = .val (match o with | none=>.bu (.nd (.int 3 0) .lf (.nd (.x 12 .lf T 0 0) .lf .lf)) 2 | some m=>.bu (.nd (.int 3 m) .lf (.nd (.x 11 .lf 0 0 0) .lf .lf)) 2) hp := fun o=>by
    cases o with
    | none=>rfl
    | some m=>exact rS
  rw [key] at h4
  refine ⟨_,h4.symm,fun w F μ args hG ha=>?_⟩
  obtain ⟨x,rfl,hx⟩ := args1 ha
  obtain ⟨b,rfl,rfl,rfl⟩ := iT hx
  rw [kf]
  obtain ⟨q1,q2⟩ := ad9 b.data.toList hn
  rw [q1]
  cases ho : Lib.atoi b.data.toList with
  | none=>exact (Hn b w F hG hn ho).mono fun e w' ⟨⟨v,e1⟩,e2⟩=>⟨_,e1,e2,sL (.int (k := 3) (n := 0) (by decide)) (.iface (.uu _))⟩
  | some i=>
    obtain ⟨p1,p2⟩ := q2 i ho
    exact (Hy b i w hn ho).mono fun e w' ⟨e1,e2⟩=>⟨_,e1,e2,sL (acr p1 p2) .vv⟩
end
end Go.Proofs.YtpiokjcbadfalaaGreatDoor.Ev
