import Derived.Test.YtdlohaedegmiaaaGreatDoorEvAA
import Derived.Test.YtdlohaedegmiaaaGreatDoorEvAB
import Derived.Test.YtdlohaedegmiaaaGreatDoorEvAO
import Derived.Test.YtdlohaedegmiaaaGreatDoorEvAU
import Derived.Test.YtdlohaedegmiaaaGreatDoorEvAV
import Derived.KernelRfl
open Go Go.Proofs.YtdlohaedegmiaaaGreatDoor.Ev
namespace Go.Proofs.YtdlohaedegmiaaaGreatDoor.Tz
theorem sp_nl {c : UInt8} {l : List UInt8} : bD c (c :: l) = [] :: bD c l := by
  show (Bool.rec (motive := fun _ => List (List UInt8)) _ ([] :: bD c l) (Nat.beq c.toNat c.toNat)) = _
  rw [Nat.beq_refl]
theorem xO {c b : UInt8} {l p : List UInt8} {r : List (List UInt8)} (h : b ≠ c) (e : bD c l = p :: r) : bD c (b :: l) = (b :: p) :: r := by
  show (Bool.rec (motive := fun _ => List (List UInt8)) (List.rec (motive := fun _ => List (List UInt8)) [[b]] (fun p r _ => (b :: p) :: r) (bD c l)) ([] :: bD c l) (Nat.beq b.toNat c.toNat)) = _
  have : Nat.beq b.toNat c.toNat = false := by
    rw [← Bool.not_eq_true]; intro h2; exact h (UInt8.toNat_inj.1 (Nat.eq_of_beq_eq_true h2))
  rw [e, this]
theorem sV (c : UInt8) : ∀ s : List UInt8, Lib.splitK [c] 0 (s.count c) s = bD c s
  | [] => rfl
  | b :: t => by
    have ih := sV c t
    by_cases h : b = c
    · subst h
      rw [List.count_cons_self, Lib.splitK, Lib.index_one]
      have e : Lib.indexByte (b :: t) b = 0 := by unfold Lib.indexByte; rw [if_pos (beq_self_eq_true b)]
      rw [e, if_neg (by decide), sp_nl, ← ih]
      rfl
    · rw [List.count_cons_of_ne h]
      cases hk : t.count c with
      | zero =>
        rw [hk] at ih
        rw [xO h ih.symm]
        rfl
      | succ k =>
        rw [hk] at ih
        have hmem : c ∈ t := List.count_pos_iff.1 (by omega)
        have hne : Lib.indexByte t c ≠ -1 := fun e => by
          obtain ⟨i, hi, hc⟩ := List.mem_iff_getElem.1 hmem
          exact Lib.indexByte_none e i (by rw [List.getElem?_eq_getElem hi, hc])
        have hge := Lib.indexByte_ge t c
        obtain ⟨i, hi⟩ : ∃ i : Nat, Lib.indexByte t c = i := ⟨(Lib.indexByte t c).toNat, by omega⟩
        have e : Lib.indexByte (b :: t) c = ((i + 1 : Nat) : Int) := by
          unfold Lib.indexByte
          rw [if_neg (by simpa using h), hi, if_neg (by rw [beq_iff_eq]; omega)]
          omega
        rw [Lib.splitK, Lib.index_one, hi, if_neg (by rw [beq_iff_eq]; omega)] at ih
        rw [Lib.splitK, Lib.index_one, e, if_neg (by rw [beq_iff_eq]; omega), xO h ih.symm]
        have e1 : (((i + 1 : Nat) : Int)).toNat = i + 1 := rfl
        have e2 : ((i : Int)).toNat = i := rfl
        rw [e1, e2]
        rfl
theorem kf : ∀ {l : List AV} {i : Nat} {v : AV}, l[i]? = some v → nth (wP l) i = v
  | [], i, v, h => by simp at h
  | a :: l, 0, v, h => Option.some.inj h
  | a :: l, i + 1, v, h => kf (l := l) (i := i) h
theorem zC {vs : Vs} (hG : ∀ w, vs.G w → ∃ m, w.cell? ⟨0, 0, none⟩ = some (.int .i64 m)) : ai ⟨Tryz.prog, vs⟩ 22 vF := by
  intro l hp R h hR
  obtain ⟨a, _, r, rfl, h1⟩ := b9 hR h
  obtain ⟨b, _, r, rfl, h2⟩ := b9 hR h1
  obtain ⟨rfl, h3⟩ := dP hR h2
  obtain ⟨s, n, rfl, h4⟩ := aM hR h3
  obtain ⟨t, m, rfl, h5⟩ := aM hR h4
  obtain ⟨hm, h6⟩ := ah hR h5
  obtain ⟨hn, h7⟩ := ah hR h6
  rw [an] at hm
  rw [aK] at hn
  subst hm
  dsimp only at h7
  obtain ⟨tr, htr, h8⟩ := mI (z := 1) gF hR _ h7
  obtain ⟨hp', h9, hs, hid⟩ := lq gF hR rfl rfl h8
  refine ⟨⟨_, Tryz.func22, by kernel_rfl, by kernel_rfl⟩, _, hp', h9.symm, fun w μ F args k hH ha => ?_⟩
  obtain ⟨x, y, rfl, hx, hy⟩ := nA ha
  obtain ⟨bs, rfl, rfl, rfl⟩ := cV hx
  obtain ⟨bt, rfl, h1t, rfl⟩ := cV hy
  obtain ⟨mm, hmm⟩ := hG w hH.jk.1
  have hone : ∃ c : UInt8, bt.data.toList = [c] := by
    have : bt.data.toList.length = 1 := h1t.symm
    match hb : bt.data.toList with
    | [c] => exact ⟨c, rfl⟩
    | [] => rw [hb] at this; cases this
    | _ :: _ :: _ => rw [hb] at this; cases this
  obtain ⟨c, hc⟩ := hone
  have hps : bD (aI bt.data.toList).toUInt8 (tR bs.size (aI bs.data.toList)) = bD c bs.data.toList := by
    rw [show tR bs.size (aI bs.data.toList) = bs.data.toList from gU _, hc]
    congr 1
    show (c.toNat + 256 * 0).toUInt8 = c
    simp
  rw [hps] at htr hs
  have hdat : (Lib.splitB bt 0 (Lib.countB bs bt) bs).map (·.data.toList) = bD c bs.data.toList := by
    rw [Lib.splitB_data, hc, ← sV, ← Lib.count_one, ← hc]
  generalize hL : Lib.splitB bt 0 (Lib.countB bs bt) bs = L at hdat
  have hlen : L.length = (bD c bs.data.toList).length := by rw [← hdat, List.length_map]
  have hcnt : Lib.countB bs bt + 1 = (bD c bs.data.toList).length := by
    rw [← hlen, ← hL]
    exact (Lib.splitB_all bt (by omega) 0 _ bs rfl).symm
  refine callsIn_wide.2 ((Tryz.strings_Split bs bt mm w (by omega) hmm (by omega)).mono fun e w' ⟨e1, e2⟩ => ?_)
  rw [hL] at e2
  have hcells : ∀ i, i < (bD c bs.data.toList).length → ∃ y, ((L.map Value.string).toArray)[i]? = some y ∧ y.oneCell' = true ∧ ae w F μ (cellAt 1 tr i) y := fun i hi => by
    have hiL : i < L.length := by omega
    refine ⟨.string L[i], ?_, rfl, ?_⟩
    · rw [List.getElem?_toArray, List.getElem?_map, List.getElem?_eq_getElem hiL]; rfl
    · rw [htr i, if_pos ⟨Nat.zero_le _, by omega⟩, Nat.sub_zero]
      have e : nth (wP ((bD c bs.data.toList).map S)) i = S L[i].data.toList := by
        have hg : (bD c bs.data.toList)[i]? = some L[i].data.toList := by
          rw [← hdat, List.getElem?_map, List.getElem?_eq_getElem hiL]; rfl
        exact kf (by rw [List.getElem?_map, hg]; rfl)
      rw [e]
      exact sN _
  have hid0 : μ hp.nx = none := ic hH
  obtain ⟨hH', hE⟩ := hH.row hid0 (w' := w') (c := (L.map Value.string).toArray) (T := 9) (fz := (0, 0)) (by rw [e2]; rfl) hs hid (.inl rfl) hcells (fun _ i hi => by
    rw [htr i, if_pos ⟨Nat.zero_le _, by omega⟩, Nat.sub_zero]
    obtain ⟨x, hx⟩ : ∃ x, (bD c bs.data.toList)[i]? = some x := ⟨_, List.getElem?_eq_getElem hi⟩
    rw [kf (v := S x) (by rw [List.getElem?_map, hx]; rfl)]
    rfl) (by rw [e2]; exact ⟨rfl, rfl⟩)
  refine ⟨_, e1, _, F, ?_, hH', .of hE fun b hb => ?_⟩
  · rw [hcnt, hps]
    have := ae.ms (w := w') (F := F) (o := 0) (n := (bD c bs.data.toList).length) (z := 1) (c := (bD c bs.data.toList).length) (aD μ hp.nx ⟨w.heap.size, 0, (L.map Value.string).toArray.size⟩) (Nat.le_refl _) (by simp; omega)
    exact this
  · by_cases h : b = hp.nx
    · exact .inr (by omega)
    · rw [bc μ _ h] at hb; exact .inl hb
end Go.Proofs.YtdlohaedegmiaaaGreatDoor.Tz
namespace Go.Proofs.YtdlohaedegmiaaaGreatDoor.Ev
noncomputable section
def a3g (G : ao) : ao := ⟨fun l hp => fT l fun _ r => fT r fun b _ => b.bW fun _ m => Bool.rec (motive := fun _ => ab) (G.f l hp) (vF.f l hp) (Nat.beq m 1)⟩
end
theorem zD {V : Env} {f : FuncId} {G : ao} (hG : ai V f G) (hS : ai V f vF) : ai V f (a3g G) := by
  intro l hp R h hR
  obtain ⟨a, _, r, rfl, h1⟩ := b9 hR h
  obtain ⟨b, _, r, rfl, h2⟩ := b9 hR h1
  obtain ⟨t, m, rfl, h3⟩ := aM hR h2
  cases hm : Nat.beq m 1 with
  | true => rw [hm] at h3; exact hS _ _ _ h3 hR
  | false => rw [hm] at h3; exact hG _ _ _ h3 hR
noncomputable section
def finE (C : Cx) (G : ao) (rs : List ResultVar) (u : Row) (fr : Fr) (hp : Hp) : ab := cj G u hp fun _ hp => lN C rs fr hp
def wx (C : Cx) (G : ao) (rs : List ResultVar) (u : Row) (r : ab) : ab := ab.rec (motive := fun _ => ab) (fun fr hp => finE C G rs u fr hp) (fun _ _ _ => .fail) (fun fr hp => finE C G rs u fr hp) (fun _ _ => .fail) .fail r
def midE (C : Cx) (G : ao) (rs : List ResultVar) (q : Dfd) (g : Ev.G) : Sm :=
  let k := ak (q.l7.toList.map (cH C g)); let s2 := (den C q.rest).run g (fun _ => jv) [] ku
  iff (vo C g q.t) ⟨fun sk fr hp => k.f sk fr fun u => wx C G rs u (s2.run sk fr hp)⟩
def fnSE (C : Cx) (G : ao) : ao :=
  match jj C.P.funcs.toList C.self with
  | none => gG
  | some fn => match fn.body with
    | none => gG
    | some c => match mQ c with
      | none => gG
      | some q =>
        let s := gu C q.a q.a.toList .e (fun g => midE C G fn.results.toList q g)
        let n := fn.params.size + fn.nfree
        Bool.rec (motive := fun _ => ao) gG (Bool.rec (motive := fun _ => ao) gG ⟨fun l hp => aq (Nat.beq (zd l) n) (lS 0 l (blank C.vars.length) fun fr => wT (s.run .lf fr hp))⟩ (cu n C.vars)) (az (okD q) (az (nj q.rest) (Nat.ble C.nt fn.ntmps)))
end
variable {P : Program} {F : Fence} {n : Nat}
theorem gC {fn : Func} {tmps : Array Value} {R : Ending → World → Prop} : ∀ (ds : List Deferred) (w : World) (fr : Frame)
    (cs : List Frame), fr.mode = .returning → fr.defers = ds → fr.tmps = tmps → P.funcs[fr.fn]? = some fn → F.fn fr.fn → F.room (cs.length + 1 + n) → (∀ d ∈ ds, ∃ r, d.target = .collected r) → LeavesInM F n P fn tmps R ds .returning w →
    ∃ v w' fr', R (.returned v) w' ∧ StepsIn (Machine.fenced P F) P (lone fr cs w) (lone fr' cs w') ∧ fr'.fn = fr.fn ∧ fr'.kind = fr.kind ∧ fr'.going P w' (.returned v) := by
  intro ds
  induction ds with
  | nil =>
    intro w fr cs hu hd ht hf hb hroom _ h
    obtain ⟨v, hr, hR⟩ := h
    exact ⟨v, w, fr, hR, .refl _, rfl, rfl, hu, hd, fn, hf, by rw [ht]; exact hr⟩
  | cons d ds ih =>
    intro w fr cs hu hd ht hf hb hroom hc h
    obtain ⟨hrun, h⟩ := h
    obtain ⟨r0, hr0⟩ := hc d (List.mem_cons_self ..)
    rcases h with ⟨r, w', htar, htake, hrest⟩ | ⟨hn, fv, cap, f, args, htar, hinv, hlead, hFf, hcall⟩
    · have h1 := step_collected (cs := cs) (hu ▸ hrun) hd htar htake
      have i1 : (lone fr cs w).fenced P F := fenced_out hb hroom (hu ▸ hrun) hd (fun g hg => by rw [htar] at hg; simp [Target.leads] at hg)
      obtain ⟨v, w'', fr', hR', hs', hfn', hk', hl'⟩ := ih w' { fr with defers := [] ++ ds } cs hu rfl ht hf hb hroom (fun d' hd' => hc d' (List.mem_cons_of_mem _ hd')) hrest
      exact ⟨v, w'', fr', hR', StepsIn.trans (.one i1 h1) hs', hfn', hk', hl'⟩
    · rw [hr0] at htar
      cases htar
def u0 (F : Fence) (n : Nat) (P : Program) (fn : Func) (R : Ending → World → Prop) : Exit → Act → World → Prop
  | .normal, a, w | .ret, a, w => (∀ d ∈ a.defers, ∃ r, d.target = .collected r) ∧ LeavesInM F n P fn a.tmps R a.defers .returning w
  | .outgrown, _, w => R .outgrown w
  | _, _, _ => False
theorem gm {f : FuncId} {fn : Func} {c : Code} {args : Array Value} {u : FrameMode} {w : World} {R : Ending → World → Prop}
    (hf : P.funcs[f]? = some fn) (hb : fn.body = some c) (hF : F.fn f)
    (h : c.wpIn F n P (u0 F n P fn R) { tmps := args ++ Array.replicate (fn.ntmps - args.size) undef, defers := [] } w) (hro : F.round = none := by rfl) :
    CallsDIn F n P f args u w fun e u' w' => u' = u ∧ R e w' := by
  refine ⟨hF, fun c₀ cs hu hr => ?_⟩
  let b : Frame := { (default : Frame) with fn := f, kind := .deferred, roundOf := none }
  have henter : Frame.enter P f args .deferred =
      b.atR { tmps := args ++ Array.replicate (fn.ntmps - args.size) undef, defers := [] } [.code c] := by
    simp [Frame.enter, Frame.atR, hf, hb, b]
  have hc : ({ c₀ with mode := u } : Frame) = c₀ := by subst hu; rfl
  obtain ⟨e, a', w', hq, harr⟩ := h b [] (c₀ :: cs) hro.symm hF hr
  rw [← henter] at harr
  cases e with
  | normal =>
    obtain ⟨v, w'', fr', hR, hs, hfn, hk, hl⟩ := gC a'.defers w' { b.atR a' [] with mode := .returning } (c₀ :: cs) rfl rfl rfl hf hF hr hq.1 hq.2
    exact ⟨.returned v, u, w'', fr', ⟨rfl, hR⟩, (by rw [hc]; exact StepsIn.trans (StepsIn.trans harr (.one (fenced_calm (fr := b.atR a' []) hF hr rfl) (stepR_end rfl))) hs), hk, hfn, hl⟩
  | ret =>
    obtain ⟨todo, hs₀⟩ := harr.1 rfl
    obtain ⟨v, w'', fr', hR, hs, hfn, hk, hl⟩ := gC a'.defers w' { b.atR a' todo with mode := .returning } (c₀ :: cs) rfl rfl rfl hf hF hr hq.1 hq.2
    exact ⟨.returned v, u, w'', fr', ⟨rfl, hR⟩, (by rw [hc]; exact StepsIn.trans hs₀ hs), hk, hfn, hl⟩
  | panic chain => exact hq.elim
  | exit id => exact hq.elim
  | goto l => exact hq.elim
  | outgrown => exact ⟨.outgrown, u, w', b, ⟨rfl, hq⟩, harr.resolve_left (by simp [b]), rfl, rfl, trivial⟩
end Go.Proofs.YtdlohaedegmiaaaGreatDoor.Ev
namespace Go.Proofs.YtdlohaedegmiaaaGreatDoor.Ev
theorem fP {s0 : ek} {h : Hp} {μ : Mu} {F : Nat → Prop} {w : World} : ∀ {ds : List Deferred}, dr s0 h μ F w ds → ∀ d ∈ ds, ∃ r, d.target = .collected r
  | [], _, _, hd => (by cases hd)
  | d :: ds, ⟨⟨r, h1, _⟩, hr⟩, d', hd => by
    rcases List.mem_cons.1 hd with rfl | hd
    · exact ⟨r, h1⟩
    · exact fP hr d' hd
def pQ (V : Env) (f : FuncId) (G : ao) : Prop := ∀ (l : Row) (hp : Hp) (R : ab), G.f l hp = R → R ≠ .fail → Can V.P f ∧ ∃ v hp', R = .val v hp' ∧
  ∀ (w : World) (μ : Mu) (F : Nat → Prop) (args : Array Value) (n : Nat) (u : FrameMode), au V μ F hp w → eI w F μ l args → CallsDIn (Wf none) n V.P f args u w fun e u' w' => u' = u ∧ ∃ x, e = .returned x ∧ ∃ μ' F', ae w' F' μ' v x ∧ au V μ' F' hp' w' ∧ bR μ F hp w μ' F' hp' w'
theorem a0L {C : Cx} {vs : Vs} (X : oD C vs) (hname : ∀ fn, C.P.funcs[C.self]? = some fn → (fn.name == "runtime.NumGoroutine") = false)
    (hrf : ∀ fn c n, C.P.funcs[C.self]? = some fn → fn.body = some c → (bn c).length ≤ 1 → ∀ x ∈ bn c, aH C vs none n (.rangeFunc x.1 x.2.1 x.2.2.1 x.2.2.2)) : pQ (C.env vs) C.self (ax C) := by
  intro l hp R h hR
  unfold ax at h
  split at h
  · exact aa hR h
  · rename_i fn hfn
    rw [c8, Array.getElem?_toList] at hfn
    split at h
    · exact aa hR h
    · rename_i c hbody
      have h0 : (Bool.rec (motive := fun _ => ao) gG (Bool.rec (motive := fun _ => ao) gG ⟨fun l hp => aq (Nat.beq (zd l) (fn.params.size + fn.nfree)) (lS 0 l (blank C.vars.length) fun fr =>
        ab.rec (motive := fun _ => ab) (fun fr hp => lN C fn.results.toList fr hp) (fun _ _ _ => .fail) (fun fr hp => lN C fn.results.toList fr hp) (fun _ _ => .fail) .fail (((den C c).run .e (fun _ => jv) [] ku).run .lf fr hp))⟩ (cu (fn.params.size + fn.nfree) C.vars)) (az (lR c) (Nat.ble C.nt fn.ntmps)) : ao).f l hp = R := h
      cases hnt : az (lR c) (Nat.ble C.nt fn.ntmps) with
      | false => rw [hnt] at h0; exact aa hR h0
      | true =>
        rw [hnt] at h0
        rw [aB, aK] at hnt
        obtain ⟨hfew, hnt⟩ := hnt
        cases hhv : cu (fn.params.size + fn.nfree) C.vars with
        | false => rw [hhv] at h0; exact aa hR h0
        | true =>
          rw [hhv] at h0
          have hvars := fy hhv
          obtain ⟨hlen, h1⟩ := ah hR h0
          rw [an, ln] at hlen
          obtain ⟨fr0, h2, hfr⟩ := hJ hR h1
          generalize hRb : ((den C c).run .e (fun _ => jv) [] ku).run .lf fr0 hp = Rb at h2
          have hRb0 : Rb ≠ .fail := fun e => by rw [e] at h2; exact hR h2.symm
          refine ⟨⟨fn, hfn, by rw [hbody]; rfl, hname fn hfn⟩, ?_⟩
          have hend : ∃ fr' hp', (Rb = .ok fr' hp' ∨ Rb = .ret fr' hp') ∧ lN C fn.results.toList fr' hp' = R := by
            cases Rb with
            | ok fr' hp' => exact ⟨fr', hp', .inl rfl, h2⟩
            | ret fr' hp' => exact ⟨fr', hp', .inr rfl, h2⟩
            | _ => exact aa hR h2
          obtain ⟨fr', hp', hor, h3⟩ := hend
          obtain ⟨v, h4, H⟩ := lP (vs := vs) X.ok hR h3
          refine ⟨v, hp', h4, fun w μ F args n u hH ha => ?_⟩
          refine gm (c := c) (R := fun e w' => ∃ x, e = .returned x ∧ ∃ μ' F', ae w' F' μ' v x ∧ au (C.env vs) μ' F' hp' w' ∧ bR μ F hp w μ' F' hp' w') hfn hbody trivial ?_ rfl
          have hSt : St C (C.env vs) (.of w.heap.size) .e .lf fr0 hp μ F { tmps := args ++ Array.replicate (fn.ntmps - args.size) undef, defers := [] } w := by
            refine ⟨bN.e, fun t => ?_, hH, ?_, ⟨[], rfl, trivial⟩⟩
            · show ae w F μ (sv 0 (look C .e t) .lf fr0) _
              have e : look C .e t = idxOf t C.vars 0 := rfl
              rw [e]
              rcases dB (l := C.vars) (t := t) (i := 0) with ⟨j, hj⟩ | hj
              · rw [hj]
                show ae w F μ (fr0.at j) _
                rw [hfr j]
                by_cases hjl : 0 ≤ j ∧ j < 0 + len l
                · rw [if_pos hjl, Nat.sub_zero]
                  have ht : t = j := dI hj (hvars j (by omega))
                  subst ht
                  have hlt : t < args.size := by have := ha.1; omega
                  have : (args ++ Array.replicate (fn.ntmps - args.size) undef).getD t undef = args[t] := by
                    rw [Array.getD_eq_getD_getElem?, Array.getElem?_append_left hlt, Array.getElem?_eq_getElem hlt]; rfl
                  rw [this]
                  exact ha.2 t _ (Array.getElem?_eq_getElem hlt)
                · rw [if_neg hjl, jb]; exact .uu _
              · rw [hj]; exact .uu _
            · show C.nt ≤ (args ++ Array.replicate (fn.ntmps - args.size) undef).size
              simp only [Array.size_append, Array.size_replicate]
              omega
          have fin : ∀ (fr2 : Fr) (hp2 : Hp) (a' : Act) (w' : World), (Rb = .ok fr2 hp2 ∨ Rb = .ret fr2 hp2) → At C vs (.of w.heap.size) μ F hp w .e .lf fr2 hp2 a' w' →
              (∀ d ∈ a'.defers, ∃ r, d.target = .collected r) ∧ LeavesInM (Wf none) n C.P fn a'.tmps (fun e w' => ∃ x, e = .returned x ∧ ∃ μ' F', ae w' F' μ' v x ∧ au (C.env vs) μ' F' hp' w' ∧ bR μ F hp w μ' F' hp' w') a'.defers .returning w' := fun fr2 hp2 a' w' hor2 ⟨μ', F', S', E'⟩ => by
            have hsame : fr2 = fr' ∧ hp2 = hp' := by
              rcases hor with e | e <;> rcases hor2 with e2 | e2 <;> rw [e] at e2 <;> cases e2 <;> exact ⟨rfl, rfl⟩
            obtain ⟨rfl, rfl⟩ := hsame
            obtain ⟨ms, hms, hmk⟩ := S'.df
            refine ⟨fun d hd => fP hmk d ((List.mem_append.1 (hms ▸ hd)).elim id fun h => absurd (show d ∈ ([] : List Deferred) from h) (by simp)), ?_⟩
            rw [hms]
            refine dD (V := C.env vs) (s0 := .of w.heap.size) (μ := μ') (F := F') (hp := hp2) (μ0 := μ) (F0 := F) (h0 := hp) (w0 := w) (wI := w') (fun w2 H2 E2 hI => ?_) (Nat.le_refl _) ms w' S'.h E' (fun _ _ => rfl) hmk
            obtain ⟨x, q1, q2⟩ := H (fn := fn) (tmps := a'.tmps) rfl H2 fun t => (S'.sl t).mono hI (fun _ h => h) (fun _ _ h => h)
            exact ⟨x, q1, x, rfl, μ', F', q2, H2, E2⟩
          refine (sO X c (hrf fn c n hfn hbody (nN hfew))).1 (s0 := .of w.heap.size) hRb0 hRb ⟨μ, F, hSt, bR.refl _ _ _ _⟩ (fun g2 sk2 fr2 hp2 a' w' e S' => fin fr2 hp2 a' w' (.inl e.symm) S'.drop) (fun id fr2 hp2 a' w' e _ => absurd e.symm (by exact fun q => hRb0 q)) (fun l fr2 hp2 a' w' e _ => absurd e.symm (by exact fun q => hRb0 q)) (fun fr2 hp2 a' w' e S' => fin fr2 hp2 a' w' (.inr e.symm) S')
theorem a4s {C : Cx} {vs : Vs} (X : oD C vs) (hname : iQ C = true) (hv : mM C = true) : pQ (C.env vs) C.self (ax C) := by
  refine a0L X (fun fn hf => ?_) fun fn c n hf hc hlen z hz => ?_
  · unfold iQ at hname
    have e : jj C.P.funcs.toList C.self = some fn := by rw [c8, Array.getElem?_toList]; exact hf
    rw [e] at hname
    simpa using hname
  · unfold mM at hv
    have e : jj C.P.funcs.toList C.self = some fn := by rw [c8, Array.getElem?_toList]; exact hf
    rw [e] at hv
    simp only [hc] at hv
    rw [gH hv] at hz
    cases hz
end Go.Proofs.YtdlohaedegmiaaaGreatDoor.Ev
namespace Go.Proofs.YtdlohaedegmiaaaGreatDoor.Ev
theorem sR {V : Env} {R : ab} (hR : R ≠ .fail) {f : FuncId} {G : ao} (hG : pQ V f G) {a : Row} {hp : Hp} {k : AV → Hp → ab} (h : cj G a hp k = R) : Can V.P f ∧ ∃ v hp', k v hp' = R ∧
    ∀ (w : World) (μ : Mu) (F : Nat → Prop) (args : Array Value) (n : Nat) (u : FrameMode), au V μ F hp w → eI w F μ a args → CallsDIn (Wf none) n V.P f args u w fun e u' w' => u' = u ∧ ∃ x, e = .returned x ∧ ∃ μ' F', ae w' F' μ' v x ∧ au V μ' F' hp' w' ∧ bR μ F hp w μ' F' hp' w' := by
  cases hb : G.f a hp with
  | val v h1 =>
    have h' : Hp.rec (motive := fun _ => ab) (fun t nx _ _ => Hp.rec (motive := fun _ => ab) (fun _ _ pr rb => k v ⟨t, nx, pr, rb⟩) hp) h1 = R := by
      unfold cj at h
      rw [hb] at h; exact h
    obtain ⟨hcan, v', hp', e, H⟩ := hG a hp _ hb (by simp)
    injection e with ev eh
    subst ev; subst eh
    refine ⟨hcan, v, ⟨h1.t, h1.nx, hp.pr, hp.rb⟩, h', fun w μ F args n u hH ha => (H w μ F args n u hH ha).mono fun e u' w' ⟨e0, x, e1, μ', F', hv1, h2, h3⟩ => ⟨e0, x, e1, μ', F', hv1, ⟨h2.aF, h2.dw, h2.et, h2.fN, h2.jk⟩, ?_, h3.ids⟩⟩
    have E := h3.ext
    have hpr : h1.pr = hp.pr := E.pr
    exact ⟨E.mu, E.fr, E.size, E.keep, fun B ⟨b, m, o1, o2, o3, o4⟩ => E.own B ⟨b, m, o1, fun hm => o2 (show b ∈ hp.pr from hpr ▸ hm), o3, o4⟩, E.wb, E.iq, E.eW, E.nx, rfl, rfl, E.io⟩
  | _ => unfold cj at h; rw [hb] at h; exact aa hR h
section
variable {C : Cx} {vs : Vs}
theorem a4q {G : ao} {gN : FuncId} (X : oD C vs) (hname : iQ C = true) (hG : pQ (C.env vs) gN G) (hq : ∀ q, (jj C.P.funcs.toList C.self).bind (fun fn => fn.body.bind mQ) = some q → q.g = gN) : ai (C.env vs) C.self (fnSE C G) := by
  intro l hp R h hR
  unfold fnSE at h
  split at h
  · exact aa hR h
  rename_i fn hfn0
  split at h
  · exact aa hR h
  rename_i c hbody
  split at h
  · exact aa hR h
  rename_i q hq0
  have hgn : q.g = gN := hq q (by rw [hfn0]; show fn.body.bind mQ = some q; rw [hbody]; exact hq0)
  have hname' : (fn.name == "runtime.NumGoroutine") = false := by
    unfold iQ at hname
    rw [hfn0] at hname
    simpa using hname
  have hfn := hfn0
  rw [c8, Array.getElem?_toList] at hfn
  obtain ⟨hc, m0, m1, m2, m3, m4, m5⟩ := vE hq0
  have h0 : (Bool.rec (motive := fun _ => ao) gG (Bool.rec (motive := fun _ => ao) gG ⟨fun l hp => aq (Nat.beq (zd l) (fn.params.size + fn.nfree)) (lS 0 l (blank C.vars.length) fun fr => wT ((gu C q.a q.a.toList .e (fun g => midE C G fn.results.toList q g)).run .lf fr hp))⟩ (cu (fn.params.size + fn.nfree) C.vars)) (az (okD q) (az (nj q.rest) (Nat.ble C.nt fn.ntmps))) : ao).f l hp = R := h
  cases hnt : az (okD q) (az (nj q.rest) (Nat.ble C.nt fn.ntmps)) with
  | false => rw [hnt] at h0; exact aa hR h0
  | true =>
    rw [hnt] at h0
    rw [aB, aB, aK] at hnt
    obtain ⟨hok, hrr, hnt⟩ := hnt
    unfold okD at hok
    rw [aB, aB, an, an, an] at hok
    obtain ⟨hfs, has, htt⟩ := hok
    have hrr := gH hrr
    cases hhv : cu (fn.params.size + fn.nfree) C.vars with
    | false => rw [hhv] at h0; exact aa hR h0
    | true =>
      rw [hhv] at h0
      have hvars := fy hhv
      obtain ⟨hlen, h1⟩ := ah hR h0
      rw [an, ln] at hlen
      obtain ⟨fr0, h2, hfr⟩ := hJ hR h1
      refine ⟨⟨fn, hfn, by rw [hbody]; rfl, hname'⟩, ?_⟩
      obtain ⟨v, hp', h3, hRv⟩ : ∃ v hp', (gu C q.a q.a.toList .e (fun g => midE C G fn.results.toList q g)).run .lf fr0 hp = .val v hp' ∧ R = .val v hp' := by
        generalize (gu C q.a q.a.toList .e (fun g => midE C G fn.results.toList q g)).run .lf fr0 hp = X0 at h2
        cases X0 with
        | val v hp' => exact ⟨v, hp', rfl, h2.symm⟩
        | _ => exact aa hR h2
      clear h2
      subst hRv
      refine ⟨v, hp', rfl, fun w μ F args n hH ha => ?_⟩
      refine callsIn_of_wp_marks (c := c) hfn hbody trivial ?_ rfl
      rw [hc]
      have hSt : St C (C.env vs) (.of w.heap.size) .e .lf fr0 hp μ F { tmps := args ++ Array.replicate (fn.ntmps - args.size) undef, defers := [] } w := by
        refine ⟨bN.e, fun t => ?_, hH, ?_, ⟨[], rfl, trivial⟩⟩
        · show ae w F μ (sv 0 (look C .e t) .lf fr0) _
          have e : look C .e t = idxOf t C.vars 0 := rfl
          rw [e]
          rcases dB (l := C.vars) (t := t) (i := 0) with ⟨j, hj⟩ | hj
          · rw [hj]
            show ae w F μ (fr0.at j) _
            rw [hfr j]
            by_cases hjl : 0 ≤ j ∧ j < 0 + len l
            · rw [if_pos hjl, Nat.sub_zero]
              have ht : t = j := dI hj (hvars j (by omega))
              subst ht
              have hlt : t < args.size := by have := ha.1; omega
              have : (args ++ Array.replicate (fn.ntmps - args.size) undef).getD t undef = args[t] := by
                rw [Array.getD_eq_getD_getElem?, Array.getElem?_append_left hlt, Array.getElem?_eq_getElem hlt]; rfl
              rw [this]
              exact ha.2 t _ (Array.getElem?_eq_getElem hlt)
            · rw [if_neg hjl, jb]; exact .uu _
          · rw [hj]; exact .uu _
        · show C.nt ≤ (args ++ Array.replicate (fn.ntmps - args.size) undef).size
          simp only [Array.size_append, Array.size_replicate]
          omega
      refine wpIn_seq (wpIn_region ?_)
      rw [List.range_eq_range', show q.a.size = q.a.toList.length by simp]
      refine jY X.ok hR X.calls X.gl q.a.toList 0 (fun j o hj => by rw [Nat.zero_add, ← Array.getElem?_toList]; exact hj) h3 hSt fun g1 sk1 fr1 hp1 μ1 F1 a1 w1 e1 T1 E1 hdf1 => ?_
      obtain ⟨hns, e2⟩ := aQ hR e1
      obtain ⟨hlook, hlt⟩ := vp hns
      obtain ⟨u, e3, hlu, hnu⟩ := oH hR (l := q.l7.toList) (k := fun u => wx C G fn.results.toList u (((den C q.rest).run g1 (fun _ => jv) [] ku).run sk1 fr1 hp1)) e2
      generalize hRb : ((den C q.rest).run g1 (fun _ => jv) [] ku).run sk1 fr1 hp1 = Rb at e3
      have hRb0 : Rb ≠ .fail := fun e => by rw [e] at e3; exact hR e3.symm
      obtain ⟨fr', hp2, hor, e4⟩ : ∃ fr' hp2, (Rb = .ok fr' hp2 ∨ Rb = .ret fr' hp2) ∧ finE C G fn.results.toList u fr' hp2 = .val v hp' := by
        cases Rb with
        | ok fr' hp2 => exact ⟨fr', hp2, .inl rfl, e3⟩
        | ret fr' hp2 => exact ⟨fr', hp2, .inr rfl, e3⟩
        | _ => exact aa hR e3
      obtain ⟨hcan, vd, hpd, e5, hdf⟩ := sR hR hG e4
      obtain ⟨v2, e6, H⟩ := lP (vs := vs) X.ok hR e5
      cases e6
      have hfs' : q.fs = #[] := Array.eq_empty_of_size_eq_zero hfs
      have has' : q.aas = #[] := Array.eq_empty_of_size_eq_zero has
      have hO : ∀ {a : Act} {w : World} {F : Nat → Prop} {μ : Mu}, (C.env vs).pL w F → (∀ t, ae w F μ (sig C g1 sk1 fr1 t) (a.tmps.getD t undef)) → ∀ i x, q.l7.toList[i]? = some x → ae w F μ (nth u i) (a.eval x) := fun hg hs i x hx => by
        rw [hnu i x hx]; exact kj X.gl hg x fun t _ => hs t
      let fv : Value := .func (.func q.g) #[] (q.l7.map a1.eval)
      let dd : Deferred := { target := .fn (.func q.g) (q.l7.map a1.eval), args := #[] }
      refine wpIn_seq (wpIn_region ?_)
      show wpOpsIn (Wf none) n C.P #[q.o0, q.o1] _ [0, 1] a1 w1
      rw [wpOpsIn_cons, wpOpIn]
      show (if Region.wanted q.o0 (yielded #[q.o0, q.o1] a1.tmps) then _ else _)
      have hw0 : Region.wanted q.o0 (yielded #[q.o0, q.o1] a1.tmps) = true := by simp [Region.wanted, m2]
      rw [if_pos hw0]
      refine dq (V := C.env vs) (w' := w1) (x := fv) (nx := .value fv) (fun c hx => by have hx' : q.o0.op = _ := hx; rw [m0] at hx'; cases hx') ?_ (.inl rfl) ?_
      · show (execOp a1.eval q.o0).run C.P w1 = _
        simp only [execOp, m0, hfs']
        rw [show (#[] : Array Operand).map a1.eval = #[] from by simp]
        rfl
      rw [wpOpsIn_cons, wpOpIn]
      show (if Region.wanted q.o1 (yielded #[q.o0, q.o1] (a1.put q.o0.dst fv).tmps) then _ else _)
      have hw1 : Region.wanted q.o1 (yielded #[q.o0, q.o1] (a1.put q.o0.dst fv).tmps) = true := by simp [Region.wanted, m5]
      rw [if_pos hw1]
      refine ⟨fun _ _ => trivial, ?_⟩
      have hev : (a1.put q.o0.dst fv).eval (.tmp q.t') = fv := by
        rw [m1, ← htt]
        have : q.t < a1.tmps.size := Nat.lt_of_lt_of_le hlt T1.nt
        simp [Act.put, Act.eval, this]
      have hsem : (q.o1.semAt none (a1.put q.o0.dst fv).eval).run C.P w1 = .ok (.defer dd) w1 := by
        rw [Oper.semAt_none]
        simp only [execOp, m3, resolve, has', hev, Deferred.ofValue, Sem.run_bind, Sem.run_pure]
        simp [fv, dd, Result.andThen]
      show q.o1.uponIn (Wf none) n C.P _ _ _ ((q.o1.semAt none (a1.put q.o0.dst fv).eval).run C.P w1)
      rw [hsem]
      let s0 : ek := ⟨w1.heap.size, [dd], fun d hd r e => by
        rw [List.mem_singleton] at hd
        subst hd
        cases e⟩
      let a2 : Act := { a1.put q.o0.dst fv with defers := dd :: (a1.put q.o0.dst fv).defers }.put q.o1.dst undef
      show q.rest.wpIn (Wf none) n C.P _ a2 w1
      have ha2 : a2.defers = [dd] := by
        show ({ a1.put q.o0.dst fv with defers := dd :: (a1.put q.o0.dst fv).defers }.put q.o1.dst undef).defers = _
        rw [(bL _ _ _).2]
        show dd :: (a1.put q.o0.dst fv).defers = _
        rw [(bL _ _ _).2, hdf1]
      have ht2 : a2.tmps = (a1.put q.o0.dst fv).tmps := by
        show ({ a1.put q.o0.dst fv with defers := dd :: (a1.put q.o0.dst fv).defers }.put q.o1.dst undef).tmps = _
        rw [m4]; rfl
      have hsl2 : ∀ t, ae w1 F1 μ1 (sig C g1 sk1 fr1 t) (a2.tmps.getD t undef) := fun t => by
        rw [ht2, m1]
        by_cases e : t = q.t
        · subst e
          have : sig C g1 sk1 fr1 q.t = .uu := by show sv g1.d (look C g1 q.t) sk1 fr1 = _; rw [hlook]; rfl
          rw [this]; exact .uu _
        · have : (a1.put (some q.t) fv).tmps.getD t undef = a1.tmps.getD t undef := by
            simp only [Act.put, Array.getD_eq_getD_getElem?, Array.getElem?_setIfInBounds, if_neg (Ne.symm e)]
          rw [this]; exact T1.sl t
      have St2 : St C (C.env vs) (s0.at w1.heap.size) g1 sk1 fr1 hp1 μ1 F1 a2 w1 := ⟨T1.gi, hsl2, T1.h, by rw [ht2, (bL _ _ _).1]; exact T1.nt, ⟨[], by rw [ha2]; rfl, trivial⟩⟩
      have hcr : ∀ i x, q.l7.toList[i]? = some x → ae w1 F1 μ1 (nth u i) (a1.eval x) := hO T1.h.jk T1.sl
      have fin : ∀ (fr2 : Fr) (hp3 : Hp) (a' : Act) (w' : World), (Rb = .ok fr2 hp3 ∨ Rb = .ret fr2 hp3) → At C vs s0 μ1 F1 hp1 w1 .e .lf fr2 hp3 a' w' →
          LeavesInM (Wf none) n C.P fn a'.tmps (fun e w' => ∃ x, e = .returned x ∧ ∃ μ' F', ae w' F' μ' v x ∧ au (C.env vs) μ' F' hp' w' ∧ bR μ F hp w μ' F' hp' w') a'.defers .returning w' := fun fr2 hp3 a' w' hor2 ⟨μ', F', S', E'⟩ => by
        have hsame : fr2 = fr' ∧ hp3 = hp2 := by
          rcases hor with e | e <;> rcases hor2 with e2 | e2 <;> rw [e] at e2 <;> cases e2 <;> exact ⟨rfl, rfl⟩
        obtain ⟨rfl, rfl⟩ := hsame
        obtain ⟨ms, hms, hmk⟩ := S'.df
        rw [hms]
        refine dD (V := C.env vs) (s0 := s0) (μ := μ') (F := F') (hp := hp3) (μ0 := μ1) (F0 := F1) (h0 := hp1) (w0 := w1) (wI := w') (fun w2 H2 E2 hI => ?_) (Nat.le_refl _) ms w' S'.h E' (fun _ _ => rfl) hmk
        have ha0 : eI w2 F' μ' u (q.l7.map a1.eval) := by
          refine ⟨by rw [Array.size_map, hlu, Array.length_toList], fun i y hy => ?_⟩
          rw [Array.getElem?_map] at hy
          obtain ⟨x, hx, rfl⟩ := Option.map_eq_some_iff.1 hy
          exact (hcr i x (by rw [Array.getElem?_toList]; exact hx)).extC T1.h E2
        refine ⟨by simp, .inr ⟨(fun h => by cases h), _, _, q.g, _, rfl, ?_, fun _ _ => trivial, CallsDIn.mono (hgn ▸ hdf w2 μ' F' _ (n - 1) .returning H2 ha0) ?_⟩⟩
        · show (callFunc q.g (#[] ++ q.l7.map a1.eval)).run C.P w2 = .ok (.enter q.g (q.l7.map a1.eval)) w2
          rw [Array.empty_append]
          exact dF (hgn ▸ hcan) _ w2
        · rintro e u' w3 ⟨rfl, xd, rfl, μ3, F3, _, H3, E3⟩
          obtain ⟨x, q1, q2⟩ := H (fn := fn) (tmps := a'.tmps) rfl H3 fun t => ((S'.sl t).mono hI (fun _ h => h) (fun _ _ h => h)).extC H2 E3
          exact ⟨x, q1, x, rfl, μ3, F3, q2, H3, (E1.trans E2).trans E3⟩
      refine (sO X q.rest (by rw [hrr]; exact fun z hz => (by cases hz))).1 (s0 := s0) hRb0 hRb ⟨μ1, F1, St2, bR.refl _ _ _ _⟩ (fun g2 sk2 fr2 hp3 a' w' e S' => fin fr2 hp3 a' w' (.inl e.symm) S'.drop) (fun id fr2 hp3 a' w' e _ => absurd e.symm (by exact fun q => hRb0 q)) (fun l fr2 hp3 a' w' e _ => absurd e.symm (by exact fun q => hRb0 q)) (fun fr2 hp3 a' w' e S' => fin fr2 hp3 a' w' (.inr e.symm) S')
end
noncomputable section
end
noncomputable section
end
end Go.Proofs.YtdlohaedegmiaaaGreatDoor.Ev
namespace Go.Proofs.YtdlohaedegmiaaaGreatDoor.Tz
noncomputable section
def kC (l : List (Nat × ao)) (v : List Nat) (n s : Nat) : Cx := ⟨mem, Go.Proofs.Tryz.prog, l, [], [], gls, v, n, s⟩
def cr42 : Cx := kC [] [0] 2 49
def r42 : ao := ax cr42
def cr18 : Cx := kC [(49, r42)] [0, 2, 3, 4] 16 37
def r18 : ao := ax cr18
def cr13 : Cx := kC [(37, r18)] [0, 1, 4, 2, 3] 97 16
def r13 : ao := ax cr13
def cr44 : Cx := kC [] [0] 2 39
def r44 : ao := ax cr44
def cr20 : Cx := kC [(39, r44)] [0, 2, 3] 13 19
def r20 : ao := ax cr20
def cr59 : Cx := kC [] [0, 1, 4, 6, 5] 23 70
def r59 : ao := ax cr59
def cr43 : Cx := kC [(70, r59)] [0, 2] 13 40
def r43 : ao := ax cr43
def cr19 : Cx := kC [(40, r43)] [0, 2] 5 20
def r19 : ao := ax cr19
def cr41 : Cx := kC [] [0, 1, 4, 12, 11] 59 68
def r41 : ao := ax cr41
def cr17 : Cx := kC [(68, r41)] [0, 2, 3] 10 36
def r17 : ao := ax cr17
def cr5 : Cx := kC [(16, r13), (19, r20), (20, r19), (36, r17), (37, r18)] [0, 1, 4, 5, 2, 3, 7, 9, 10, 11] 87 15
def r5 : ao := ax cr5
def r49 : ao := a07
def r46 : ao := ixfF 44
def r75 : ao := idxF
def cr73 : Cx := kC [(112, r75)] [0, 1, 4] 8 111
def r73 : ao := ax cr73
def cr62 : Cx := kC [(111, r73)] [0, 1, 2, 6, 7, 14, 13, 9, 8, 11] 60 76
def r62 : ao := ax cr62
def cr48 : Cx := kC [(42, r49), (76, r62)] [0, 2, 3, 4, 8, 9] 43 45
def r48 : ao := ax cr48
def cr22 : Cx := kC [(42, r49), (43, r46), (45, r48)] [0, 1, 4, 5, 6] 49 24
def r22 : ao := ax cr22
def r23 : ao := a1M
def r24 : ao := cutF
def cr53 : Cx := kC [] [0, 1, 4, 8, 7] 19 50
def r53 : ao := ax cr53
def cr25 : Cx := kC [(49, r42), (50, r53)] [0, 2, 3, 5] 15 27
def r25 : ao := ax cr25
def cr26 : Cx := kC [(39, r44), (50, r53)] [0, 2, 3, 5] 14 28
def r26 : ao := ax cr26
def cr7 : Cx := kC [(15, r5), (24, r22), (25, r23), (26, r24), (27, r25), (28, r26)] [0, 1, 4, 5, 7, 12, 8, 10, 6, 27, 15, 17, 19, 26, 24, 2] 156 11
def r7 : ao := ax cr7
def cr33 : Cx := kC [] [0, 2] 31 18
def r33 : ao := ax cr33
def r9 : ao := a3l r5 r33 r20 r19
def a5P : ao := subF
def a8w : Cx := kC [(78, a5P)] [0, 1, 4] 8 73
def a2l : ao := ax a8w
def a90 : Cx := kC [] [0, 1] 2 109
def a62 : ao := ax a90
def a0a : Cx := kC [(73, a2l), (109, a62)] [0, 1, 4, 5, 6] 34 72
def a5Q : ao := cntG (ax a0a)
def a8i : Cx := kC [(72, a5Q), (73, a2l)] [0, 1, 2, 3, 8, 10, 9, 11] 66 41
def a5G : ao := ax a8i
def cr37 : Cx := kC [(41, a5G)] [0, 1, 4] 8 22
def r37 : ao := a3g (ax cr37)
def cr38 : Cx := kC [(18, r33), (24, r22), (26, r24), (28, r26), (42, r49)] [0, 2, 3] 66 23
def r38 : ao := ax cr38
def cr11 : Cx := kC [(11, r7), (22, r37), (23, r38)] [0, 1, 4, 5, 6, 7, 8, 55, 54, 53, 2, 11, 14, 9] 75 10
def r11 : ao := ax cr11
def cr39 : Cx := kC [] [0, 2, 3, 6, 4, 5] 31 35
def r39 : ao := ax cr39
end
end Go.Proofs.YtdlohaedegmiaaaGreatDoor.Tz
set_option maxRecDepth 100000
namespace Go.Proofs.YtdlohaedegmiaaaGreatDoor.Tz
open Go Go.Proofs.YtdlohaedegmiaaaGreatDoor.Ev
noncomputable section
abbrev o {α : Type} : Tr α := .lf
abbrev n {α : Type} (v : α) (l r : Tr α) : Tr α := .nd v l r
abbrev i (k n : Nat) : AV := .int k n
abbrev i3 : Nat → AV := .int 3
abbrev i4 : Nat → AV := .int 4
abbrev L1 (a : AV) : Row := .nd a .lf .lf
abbrev L2 (a b : AV) : Row := .nd a .lf (L1 b)
abbrev G2 (a b : AV) : AV := .agg (L2 a b) 2
abbrev L3 (a b c : AV) : Row := .nd a .lf (L2 b c)
abbrev G3 (a b c : AV) : AV := .agg (L3 a b c) 3
abbrev L4 (a b c d : AV) : Row := .nd a .lf (L3 b c d)
abbrev G4 (a b c d : AV) : AV := .agg (L4 a b c d) 4
abbrev L5 (a b c d e : AV) : Row := .nd a .lf (L4 b c d e)
abbrev G5 (a b c d e : AV) : AV := .agg (L5 a b c d e) 5
abbrev L6 (a b c d e f : AV) : Row := .nd a .lf (L5 b c d e f)
abbrev G6 (a b c d e f : AV) : AV := .agg (L6 a b c d e f) 6
abbrev L7 (a b c d e f g : AV) : Row := .nd a .lf (L6 b c d e f g)
abbrev G7 (a b c d e f g : AV) : AV := .agg (L7 a b c d e f g) 7
abbrev L8 (a b c d e f g j : AV) : Row := .nd a .lf (L7 b c d e f g j)
abbrev L9 (a b c d e f g j k : AV) : Row := .nd a .lf (L8 b c d e f g j k)
abbrev L10 (a b c d e f g j k l : AV) : Row := .nd a .lf (L9 b c d e f g j k l)
abbrev L11 (a b c d e f g j k l m : AV) : Row := .nd a .lf (L10 b c d e f g j k l m)
abbrev L12 (a b c d e f g j k l m p : AV) : Row := .nd a .lf (L11 b c d e f g j k l m p)
abbrev kE (a b c d e f g j k l m p : AV) : AV := .agg (L12 a b c d e f g j k l m p) 12
def s0 : AV := (i4 2)
def s1 : AV := (i3 0)
def s2 : AV := (.x 8 o 0 0 0)
def s3 : AV := (i4 1)
def s4 : AV := (i4 4)
def s5 : AV := (i3 4)
def s6 : AV := (i4 3)
def s7 : AV := (i4 5)
def s8 : AV := (G2 (.str 110 1) s1)
def s9 : AV := (i3 1)
def s10 : AV := (G2 (.str 28271 2) s9)
def s11 : Row := (L1 (G2 (.str 0 0) s1))
def pE : AV := (i4 7)
def jD : AV := (.vs (n (G4 s0 s1 s1 s2) (n (G4 s3 s1 s1 s2) (n (G4 s4 s1 s1 s2) (L1 (G4 s4 s5 s1 s2)) o) (L1 (G4 (i4 6) s1 (i3 3) s2))) (n (G4 s6 s1 s1 s2) (L1 (G4 s7 s1 s1 (.vs (n s8 (n s10 s11 s11) (n (G2 (.str 29793 2) (i3 3)) s11 s11)) 0 3 2))) (L1 (G4 pE s1 s1 s2)))) 0 8 4)
def s14 : AV := (.str 1702125932 4)
def s15 : AV := (.str 1802723700 4)
def s16 : Row := (L1 (.str 0 0))
def jE : AV := (.vs (n s14 (n s15 s16 s16) (n (.str 1836019554 4) s16 s16)) 0 3 1)
def s18 : AV := (.str 1852399981 4)
def n5 : AV := (i3 18446744073709551615)
def s20 : AV := (G2 (.str 107 1) s1)
def s21 : Row := (L1 s20)
def s22 : Row := (n s8 (n s10 (n (G2 (.str 112 1) (i3 3)) s21 o) (L1 (G2 (.str 97 1) (i3 5)))) (n (G2 (.str 115 1) (i3 2)) (n (G2 (.str 114 1) s5) (L1 (G2 (.str 113 1) (i3 7))) o) (L1 (G2 (.str 108 1) (i3 6)))))
def s23 : AV := (.vs s22 0 9 2)
def s24 : AV := (G4 (i4 28) s1 s1 s1)
def s25 : Row := (L1 s24)
def xL : AV := (i4 34)
def zK : Row := (L1 (G4 xL n5 s1 s1))
def vw : AV := (i4 23)
def s29 : Row := (n (G4 s3 s1 (i3 5) s1) (n (G4 s6 s9 s9 s1) (n (G4 (i4 15) (i3 3) s1 s1) (L1 (G4 (i4 18) (i3 6) (i3 7) s1)) s25) (n (G4 s4 (i3 5) s1 s1) (L1 (G4 (i4 12) s9 s9 s1)) o)) (n (G4 s0 (i3 2) s1 s1) (n (G4 s4 s5 s1 s1) (L1 (G4 (i4 15) (i3 8) s1 s1)) zK) (n (G4 s3 (i3 7) (i3 2) s1) (L1 (G4 vw s9 (i3 12) s1)) o)))
def s30 : AV := (.vs s29 0 13 4)
def fV : AV := (i 7 0)
def s32 : AV := (G2 s1 fV)
def s33 : Row := (L1 s32)
def s34 : Row := (n s32 s33 s33)
def ld : AV := (.vs s34 0 1 2)
def s36 : AV := (.str 1802661751 4)
def s37 : Row := (L1 s10)
def s38 : Row := (n s8 s21 s37)
def s39 : AV := (.vs s38 0 3 2)
def s40 : Row := (n (G4 s3 s9 s9 s1) (n (G4 (i4 10) (i3 2) s1 s9) (n (G4 pE s9 s1 s9) (L1 (G4 xL s9 s1 s1)) o) (n (G4 (i4 25) s9 s9 s1) zK o)) (n (G4 vw (i3 2) (i3 8) s1) (n (G4 (i4 24) s9 s1 s1) (L1 (G4 xL s1 s1 s1)) o) (L1 (G4 (i4 6) s9 s9 s1))))
def s41 : AV := (.vs s40 0 10 4)
def s42 : AV := (G4 vw s9 s5 s1)
def s43 : Row := (n (G4 (i4 31) s1 s1 s1) (n (G4 (i4 33) s9 s1 s1) (L1 (G4 (i4 32) s1 s1 s1)) o) (n s42 zK o))
def s44 : AV := (.vs s43 0 5 4)
def s45 : AV := (.str 474214393697 5)
def s46 : Row := (n s8 s37 s21)
def s47 : AV := (.vs s46 0 3 2)
def s48 : AV := (G4 (i4 29) s9 (i3 2) s1)
def s49 : Row := (n s48 s25 zK)
def s50 : AV := (.vs s49 0 3 4)
def s51 : AV := (.str 435777791340 5)
def s52 : AV := (G4 (i4 30) s1 s1 s1)
def aJ : AV := (i4 0)
def s54 : Row := (L1 (G4 aJ s1 s1 s1))
def s55 : Row := (n s48 (n s42 (L1 (G4 vw s9 (i3 5) s1)) s25) (n (G4 (i4 10) s9 s1 (i3 2)) zK zK))
def s56 : AV := (.vs s55 0 7 4)
def s57 : AV := (.str 1818845542 4)
def s58 : AV := (.str 499917616497 5)
def s59 : Row := (L1 s8)
def s60 : AV := (G4 (i4 29) s1 s9 s1)
def s61 : AV := (i4 101)
def eG : Row := (L1 s3)
def tP : Row := (n s3 eG o)
def s64 : Row := (L1 s7)
def cG : Row := (L1 aJ)
def pO : Row := (n s3 cG o)
def tQ : AV := (i4 110)
def j2 : Row := (n aJ cG o)
def lv : AV := (i4 97)
def vy : AV := (i4 111)
def zL : AV := (i4 108)
def s72 : Row := (L1 s6)
def s73 : Row := (L1 s61)
def s74 : Row := (n s3 s73 o)
def s75 : Row := (L1 xL)
def s76 : Row := (n aJ s75 o)
def s77 : AV := (i4 115)
def sP : AV := (i4 107)
def s79 : Row := (L1 tQ)
def s80 : Row := (L1 (i4 105))
def s81 : Row := (L1 lv)
def zM : Row := (L1 s0)
def s83 : Row := (n s3 zM o)
def s84 : Row := (n aJ zM o)
def n7 : AV := (i4 116)
def s86 : Row := (n aJ eG o)
def s87 : Row := (n xL cG o)
def s88 : Row := (L1 zL)
def s89 : AV := (i4 109)
def s90 : Row := (n (i4 10) eG o)
def s91 : Row := (n vy eG o)
def s92 : Row := (L1 vy)
def s93 : Row := (n tQ eG o)
def s94 : Row := (L1 sP)
def s95 : Row := (n s0 eG o)
def s96 : Row := (n s3 s79 o)
def s97 : Row := (n s0 cG o)
def jL : AV := (i3 1000)
def jM : AV := (i3 2048)
def cF : AV := (i3 4096)
def s101 : Row := (n s32 (n (G2 s9 (i 7 1)) (n (G2 (i3 3) (i 7 7)) (L1 (G2 (i3 7) (i 7 191))) o) (n (G2 (i3 5) (i 7 31)) (L1 (G2 (i3 9) (i 7 511))) o)) (n (G2 (i3 2) (i 7 3)) (n (G2 s5 (i 7 15)) (L1 (G2 (i3 8) (i 7 255))) o) (n (G2 (i3 6) (i 7 63)) (L1 (G2 (i3 12) fV)) o)))
def a2V : AV := (G2 s1 (i 7 1))
def s103 : Row := (n a2V (n (G2 s9 (i 7 3)) (L1 (G2 (i3 9) fV)) o) (L1 (G2 (i3 2) (i 7 7))))
def s104 : Row := (n a2V (L1 (G2 (i3 2) (i 7 3))) (L1 (G2 s5 fV)))
def s105 : Row := (n s10 s59 o)
def s106 : Row := (n a2V (L1 (G2 s9 (i 7 7))) (L1 (G2 (i3 6) fV)))
def s107 : Row := (n a2V (L1 (G2 s9 fV)) s33)
def s108 : aX := (.row true false 2 6 s46)
def s109 : Row := (n s24 zK o)
def s110 : aX := (.row true true 2 2 s34)
def zw : Tr aX := (n s110 o o)
def s112 : Row := (n s1 (L1 s1) (L1 s1))
def s113 : Row := (n s1 s112 s112)
def s114 : Row := (n s1 s113 s113)
def s115 : Row := (n s1 s114 s114)
def s116 : Row := (n s60 zK o)
def s117 : Row := (n s20 s37 o)
def s118 : Row := (n s52 zK o)
def s119 : Row := (n s32 (L1 (G2 (i3 5) (i 7 8))) (L1 (G2 (i3 6) fV)))
def s120 : Row := (n a2V (L1 (G2 s9 (i 7 7))) (L1 (G2 (i3 2) fV)))
def cP : AV := (.vs (n (G7 s18 s1 n5 s23 s30 ld (.vs s101 0 11 2)) (n (G7 s36 s9 s1 s39 s41 (.vs s119 0 3 2) (.vs s103 0 4 2)) (n (G7 s15 s9 n5 (.vs s117 0 2 2) s44 ld (.vs s104 0 3 2)) (L1 (G7 s45 s9 n5 s47 s50 ld (.vs s120 0 3 2))) o) (L1 (G7 s51 s1 n5 s2 (.vs s118 0 2 4) ld ld))) (n (G7 s14 s9 n5 s47 s56 ld (.vs s106 0 3 2)) (L1 (G7 s57 s9 n5 (.vs s59 0 1 2) (.vs s109 0 2 4) ld (.vs s107 0 2 2))) (L1 (G7 s58 s1 n5 (.vs s105 0 2 2) (.vs s116 0 2 4) ld ld)))) 0 8 7)
def s122 : AV := (G3 jD jE cP)
def s123 : Row := (L1 s122)
def s124 : Row := (n vy cG o)
def di : AV := (i 7 65536)
def fe : Row := (n aJ cG cG)
def s127 : Row := (n zL (n lv (n s61 fe (n sP (L1 s89) o)) (n aJ (n lv s92 o) j2)) (n n7 (n aJ (n n7 (L1 (i4 98)) o) j2) (n aJ (n s77 s92 o) j2)))
def a2W : AV := (.vs s127 0 24 1)
def np : AV := (i 7 16777216)
def pF : Row := (n aJ j2 cG)
def vv : Row := (n aJ pF pF)
def a2X : Row := (n aJ pF fe)
def iU : Row := (n aJ vv a2X)
def a2Y : Row := (n aJ iU iU)
def pG : Row := (n aJ (n aJ (n aJ vv vv) iU) a2Y)
def s136 : AV := (.vs (L1 (G2 np (.vs (n aJ pG (n aJ a2Y a2Y)) 0 152 1))) 0 1 2)
def kx : AV := (i 7 16777368)
def s138 : AV := (G6 s3 (i 7 256) kx fV fV s1)
def s139 : Row := (L1 (G6 aJ fV fV fV fV s1))
def s140 : AV := (kE jD jE cP jL jM cF s5 di a2W s136 (.vs (n s138 s139 s139) 0 1 6) s1)
def s141 : AV := (kE jD jE cP jL jM cF s5 di a2W s136 (.vs (L1 s138) 0 1 6) s1)
def s142 : AV := (.bM (L4 (kE jD jE cP jL jM cF s5 di (.ms 0 0 24 1) (.ms 2 0 1 2) (.ms 3 0 1 6) s9) aJ s1 s1) 4)
def s143 : aX := (.row true false 1 24 s127)
def s144 : Row := (n s7 pF fe)
def s145 : Row := (n aJ pG (n aJ (n aJ (n aJ vv s144) iU) a2Y))
def s146 : Row := (L1 (G6 s3 (i 7 257) kx fV fV s1))
def ky : Tr aX := (n (.row true false 2 2 (L1 (G2 np (.ms 1 0 152 1)))) o o)
def s148 : AV := (kE jD jE cP jL jM cF s5 di a2W (.vs (L1 (G2 np (.vs s145 0 152 1))) 0 1 2) (.vs s146 0 1 6) s9)
def s149 : Row := (n s3 j2 cG)
def s150 : Row := (n aJ pG (n aJ (n aJ (n aJ (n aJ s149 pF) s144) iU) a2Y))
def s151 : Row := (L1 (G6 s3 (i 7 258) kx fV fV s1))
def s152 : AV := (kE jD jE cP jL jM cF s5 di a2W (.vs (L1 (G2 np (.vs s150 0 152 1))) 0 1 2) (.vs s151 0 1 6) (i3 2))
def s153 : Row := (n aJ s149 (n s4 j2 cG))
def s154 : Row := (n aJ pG (n aJ (n aJ (n aJ s153 s144) iU) (n aJ (n aJ vv (n aJ s149 fe)) iU)))
def s155 : Row := (L1 (G6 s3 (i 7 259) kx fV fV s1))
def s156 : AV := (kE jD jE cP jL jM cF s5 di a2W (.vs (L1 (G2 np (.vs s154 0 152 1))) 0 1 2) (.vs s155 0 1 6) (i3 3))
def s157 : Row := (n zL (n lv (n s61 pF (n sP (L1 s89) cG)) (n aJ (n lv s92 cG) fe)) (n n7 (n aJ (n n7 (L1 (i4 98)) cG) fe) (n aJ (n s77 s92 cG) fe)))
def s158 : aX := (.row true false 1 32 s157)
def s159 : Row := (n (i4 24) cG cG)
def s160 : Row := (n aJ s149 (n s3 cG cG))
def s161 : Row := (n aJ (n aJ vv s160) iU)
def s162 : Row := (n aJ pG (n aJ (n aJ (n aJ s153 (n s7 pF s159)) iU) s161))
def s163 : aX := (.row true false 1 152 s162)
def s164 : Row := (L1 (G6 s3 (i 7 260) kx fV fV s1))
def s165 : AV := (.vs s157 0 32 1)
def s166 : AV := (.vs (L1 (G2 np (.vs s162 0 152 1))) 0 1 2)
def s167 : AV := (kE jD jE cP jL jM cF s5 di s165 s166 (.vs s164 0 1 6) s5)
def s168 : Row := (L1 (G6 s3 (i 7 261) kx fV fV s1))
def s169 : AV := (kE jD jE cP jL jM cF s5 di s165 s166 (.vs s168 0 1 6) (i3 5))
def s170 : Row := (L1 (G6 s3 (i 7 262) kx fV fV s1))
def s171 : AV := (kE jD jE cP jL jM cF s5 di s165 s166 (.vs s170 0 1 6) (i3 6))
def s172 : Row := (n aJ s84 cG)
def s173 : Row := (n aJ pG (n aJ (n aJ (n aJ s153 (n s7 s172 s159)) iU) s161))
def s174 : Row := (L1 (G6 s3 (i 7 263) kx fV fV s1))
def s175 : AV := (kE jD jE cP jL jM cF s5 di s165 (.vs (L1 (G2 np (.vs s173 0 152 1))) 0 1 2) (.vs s174 0 1 6) (i3 7))
def s176 : Row := (n aJ j2 j2)
def s177 : Row := (n zL (n lv (n s61 (n aJ fe j2) (n sP (n s89 cG o) j2)) (n aJ (n lv s124 j2) s176)) (n n7 (n aJ (n n7 (n (i4 98) cG o) j2) s176) (n aJ (n s77 s124 j2) s176)))
def s178 : Row := (n s3 s84 cG)
def s179 : Row := (n s7 s172 (n (i4 24) cG zM))
def s180 : Row := (n aJ pG (n aJ (n aJ (n aJ (n aJ s178 (n s4 j2 (L1 (i4 32)))) s179) iU) (n aJ (n aJ (n aJ pF (n aJ j2 eG)) s160) iU)))
def s181 : Row := (L1 (G6 s3 (i 7 264) kx fV fV s1))
def s182 : AV := (kE jD jE cP jL jM cF s5 di (.vs s177 0 48 1) (.vs (L1 (G2 np (.vs s180 0 152 1))) 0 1 2) (.vs s181 0 1 6) (i3 8))
def s183 : Row := (n vy j2 cG)
def s184 : Row := (n zL (n lv (n s61 vv (n sP (n s89 j2 cG) fe)) (n aJ (n lv s183 fe) a2X)) (n n7 (n aJ (n n7 (n (i4 98) j2 cG) fe) a2X) (n aJ (n s77 s183 fe) a2X)))
def s185 : aX := (.row true false 1 72 s184)
def s186 : Row := (n s4 (n aJ (L1 (i4 48)) o) (L1 (i4 32)))
def s187 : Row := (n aJ (n aJ (n aJ pF (n aJ s86 eG)) s160) iU)
def s188 : Row := (n aJ pG (n aJ (n aJ (n aJ (n aJ s178 s186) s179) iU) s187))
def s189 : Row := (L1 (G6 s3 (i 7 265) kx fV fV s1))
def s190 : AV := (.vs s184 0 72 1)
def s191 : AV := (kE jD jE cP jL jM cF s5 di s190 (.vs (L1 (G2 np (.vs s188 0 152 1))) 0 1 2) (.vs s189 0 1 6) (i3 9))
def s192 : Row := (n aJ pG (n aJ (n aJ (n aJ (n aJ s172 s186) s179) iU) s187))
def s193 : aX := (.row true false 1 152 s192)
def s194 : Row := (L1 (G6 s3 (i 7 266) kx fV fV s1))
def s195 : AV := (.vs (L1 (G2 np (.vs s192 0 152 1))) 0 1 2)
def s196 : AV := (kE jD jE cP jL jM cF s5 di s190 s195 (.vs s194 0 1 6) (i3 10))
def s197 : Row := (L1 (G6 s3 (i 7 267) kx fV fV s1))
def s198 : AV := (kE jD jE cP jL jM cF s5 di s190 s195 (.vs s197 0 1 6) (i3 11))
def zx : Row := (n aJ fe fe)
def s200 : Row := (n vy fe fe)
def s201 : Row := (n aJ zx zx)
def s202 : Row := (n zL (n lv (n s61 (n aJ a2X zx) (n sP (n s89 fe fe) zx)) (n aJ (n lv s200 zx) s201)) (n n7 (n aJ (n n7 (n (i4 98) fe (n aJ eG cG)) (n aJ fe (n aJ s64 cG))) s201) (n aJ (n s77 s200 zx) s201)))
def s203 : Row := (L1 (G6 s3 (i 7 267) kx fV (i 7 65608) s1))
def s204 : AV := (G3 s2 s2 s2)
def s205 : Row := (L1 s204)
def we : Row := (L1 (G3 jD jE (.vs (n (G7 s18 s1 n5 s23 s30 ld ld) (n (G7 s36 s9 s1 s39 s41 ld ld) (n (G7 s15 s9 n5 (.vs (n s20 s37 s11) 0 2 2) s44 ld ld) (L1 (G7 s45 s9 n5 s47 s50 ld ld)) o) (L1 (G7 s51 s1 n5 s2 (.vs (n s52 zK s54) 0 2 4) ld ld))) (n (G7 s14 s9 n5 s47 s56 ld ld) (L1 (G7 s57 s9 n5 (.vs (n s8 s11 s11) 0 1 2) (.vs (n s24 zK s54) 0 2 4) ld ld)) (L1 (G7 s58 s1 n5 (.vs (n s10 s59 s11) 0 2 2) (.vs (n s60 zK s54) 0 2 4) ld ld)))) 0 8 7)))
def y7 : AV := (.bM (L2 (.ms 0 0 352 1) s1) 2)
def wK : Hp := ⟨(n (.row true true 1 352 (n (i4 8) (n s0 (n s6 (n s6 (n s0 (n s61 (n s6 tP (n pE s64 o)) (n s3 pO pO)) (n tQ (n (i4 13) j2 (n (i4 28) eG o)) (n xL (n lv eG o) (L1 s4)))) (n aJ (n vy (n zL (n tQ cG o) (n s3 s72 o)) (n (i4 12) s74 eG)) (n vy (n s0 tP j2) (n s4 s76 eG)))) (n s0 (n (i4 6) (n s77 (n s3 (n sP s79 o) (n vw s80 o)) (n (i4 6) (n xL s64 o) cG)) (n s3 (n s6 (n (i4 8) s81 o) (n s3 (L1 (i4 29)) o)) (n aJ s83 eG))) (n s4 (n s4 (n aJ pO s83) (n s3 s84 eG)) (n s77 (n s4 (n s0 s75 o) (n lv cG o)) (n sP pO (L1 (i4 102))))))) (n aJ (n tQ (n n7 (n n7 (n (i4 114) s86 (n s3 (L1 (i4 103)) o)) (n s4 s87 eG)) (n s3 (n aJ (n vw s88 o) s87) (n s3 (n s61 s79 o) cG))) (n s4 (n s89 (n s3 s90 (n s0 s79 o)) (n s3 j2 (L1 (i4 31)))) (n s3 (n (i4 15) s83 (n s4 eG o)) (n vy s91 cG)))) (n tQ (n s6 (n s4 (n s7 (n s0 zM o) (n s4 eG o)) (n (i4 15) (n xL (L1 (i4 117)) o) s92)) (n aJ (n s3 s74 s84) (n aJ pO cG))) (n lv (n lv (n (i4 113) s90 (n xL s79 o)) (n (i4 28) (n s4 s92 o) (L1 vw))) (n s3 (n s4 (n (i4 6) eG o) (n sP eG o)) (n aJ (n sP cG o) s80)))))) (n s3 (n s4 (n s3 (n lv (n s4 (n s3 s93 (n (i4 29) s81 o)) (n pE s86 zM)) (n aJ (n s3 (n s3 s64 o) (n aJ s94 o)) (n s3 (n n7 eG o) (L1 (i4 32))))) (n s4 (n vy (n (i4 6) (n s3 s75 o) s86) (n s3 (n aJ (L1 n7) o) s64)) (n tQ (n aJ (n (i4 24) cG o) s76) (n (i4 119) s95 cG)))) (n vy (n aJ (n sP (n lv j2 s96) (n pE (n aJ (L1 (i4 113)) o) zM)) (n tQ (n s3 (n pE (L1 (i4 118)) o) s86) (n s3 (n s6 (L1 (i4 29)) o) eG))) (n zL (n s89 (n s3 s97 (n s7 s92 o)) (n (i4 12) s84 cG)) (n s0 (n s4 tP (n s77 cG o)) (n s3 tP s81))))) (n s7 (n aJ (n s6 (n lv (n s4 tP (n s0 s81 o)) (n (i4 18) s97 s94)) (n (i4 9) (n (i4 10) (n s0 s73 o) (n s3 s72 o)) (n aJ pO s75))) (n s6 (n (i4 8) (n sP tP (n vw cG o)) (n vw tP (L1 (i4 33)))) (n s3 (n s6 (n (i4 25) (L1 (i4 30)) o) (n n7 eG o)) (n (i4 114) (n tQ cG o) (L1 s4))))) (n s3 (n pE (n (i4 98) (n s3 (n vy (L1 (i4 28)) o) s90) (n (i4 8) (n s3 s80 o) s79)) (n s0 (n s0 j2 (n s3 (L1 (i4 28)) o)) (n aJ s93 cG))) (n n7 (n (i4 105) (n pE s97 tP) (n aJ (n zL s79 o) eG)) (n (i4 112) (n s7 pO pO) (n s6 j2 s88)))))))) o o), 1, [], 0⟩
def vU : Row := zM
def xT : AV := (.bM (L3 (G3 jD jE (.ms 31 0 8 7)) (G5 (.ms 32 0 20 1) jL jM cF s5) s1) 3)
def wB : Hp := ⟨(n (.row true false 2 18 s22) (n (.row true false 4 52 s29) (n (.row true true 2 22 s101) (n (.row true true 2 8 s103) (n (.row true true 2 6 s104) (n (.row true false 7 56 (n (G7 s18 s1 n5 (.ms 0 0 9 2) (.ms 1 0 13 4) (.ms 2 0 1 2) (.ms 3 0 11 2)) (n (G7 s36 s9 s1 (.ms 4 0 3 2) (.ms 5 0 10 4) (.ms 6 0 3 2) (.ms 7 0 4 2)) (n (G7 s15 s9 n5 (.ms 12 0 2 2) (.ms 13 0 5 4) (.ms 14 0 1 2) (.ms 15 0 3 2)) (L1 (G7 s45 s9 n5 (.ms 27 0 3 2) (.ms 28 0 3 4) (.ms 29 0 1 2) (.ms 30 0 3 2))) o) (L1 (G7 s51 s1 n5 s2 (.ms 20 0 2 4) (.ms 21 0 1 2) (.ms 22 0 1 2)))) (n (G7 s14 s9 n5 (.ms 8 0 3 2) (.ms 9 0 7 4) (.ms 10 0 1 2) (.ms 11 0 3 2)) (L1 (G7 s57 s9 n5 (.ms 16 0 1 2) (.ms 17 0 2 4) (.ms 18 0 1 2) (.ms 19 0 2 2))) (L1 (G7 s58 s1 n5 (.ms 23 0 2 2) (.ms 24 0 2 4) (.ms 25 0 1 2) (.ms 26 0 1 2)))))) o o) o) (n (.row true false 2 4 s105) o o)) (n (.row true true 2 6 s106) (n (.row true true 2 4 s107) o o) (n s108 o o))) (n (.row true false 4 40 s40) (n (.row true false 4 28 s55) (n (.row true false 4 8 s109) o o) zw) (n (.row true false 4 20 s43) zw zw))) (n s110 (n (.row true false 2 6 s38) (n s108 (n (.row true false 2 2 s59) (n (.row true true 1 20 s115) o o) o) (n (.row true false 4 8 s116) o o)) (n (.row true false 2 4 s117) (n (.row true false 4 8 s118) o o) (n (.row true false 4 12 s49) o o))) (n (.row true true 2 6 s119) (n s110 zw zw) (n s110 zw (n (.row true true 2 6 s120) o o))))), 33, [], 0⟩
def wg : Row := s123
def y8 : AV := (.bM (L2 (.ms 0 0 399 1) s1) 2)
def wL : Hp := ⟨(n (.row true true 1 399 (n (i4 8) (n s0 (n s6 (n s6 (n s0 (n s61 (n s6 (n s3 (L1 n7) eG) (n aJ (L1 (i4 118)) o)) (n s3 s83 (n aJ (L1 (i4 29)) o))) (n tQ (n (i4 13) (n (i4 119) (L1 (i4 33)) o) (n zL (L1 (i4 113)) o)) (n xL (n (i4 24) (L1 (i4 28)) o) s96))) (n aJ (n vy (n zL (n (i4 255) s94 cG) tP) (n (i4 12) (n s3 s88 o) s90)) (n vy (n s0 (n tQ s75 o) (n tQ zM o)) (n s3 j2 (n s6 s92 o))))) (n s0 (n (i4 6) (n s77 (n s3 (n s3 eG s75) pO) (n (i4 6) (n s0 (L1 s4) o) s95)) (n s3 (n s6 tP (n s3 (L1 n7) o)) (n aJ tP tP))) (n s4 (n s4 (n aJ (n s6 s79 eG) (n pE eG o)) (n s3 (n pE eG o) (n vw s81 o))) (n s77 (n s4 j2 s93) (n s3 (n aJ s64 o) (n pE s94 o)))))) (n aJ (n tQ (n n7 (n n7 (n (i4 114) (n s3 (L1 s77) (L1 (i4 28))) (n s7 cG o)) (n s4 s83 (n (i4 29) eG o))) (n s3 (n aJ (n (i4 114) cG o) (n n7 s80 o)) (n s3 (n (i4 25) s75 o) s86))) (n s4 (n s89 (n s3 (n s3 zM cG) (n s6 cG o)) (n s3 s95 j2)) (n s3 (n (i4 15) tP (n s0 s79 o)) (n s3 s95 tP)))) (n tQ (n s6 (n s4 (n s7 (n s3 zM eG) (n s4 (L1 (i4 30)) o)) (n (i4 15) (n s0 s81 o) pO)) (n aJ (n s3 (n s6 (L1 (i4 32)) o) (n s6 eG o)) (n aJ pO j2))) (n lv (n lv (n (i4 113) (n aJ s64 eG) j2) (n (i4 28) j2 (n s7 s81 o))) (n s3 (n s4 s124 pO) (n s3 s74 (n aJ s72 o))))))) (n s3 (n s4 (n s3 (n lv (n s4 (n s3 (n (i4 31) s81 zM) (n aJ s73 o)) (n pE (n (i4 10) s72 o) (n pE cG o))) (n aJ (n s3 s91 (n lv (L1 (i4 117)) o)) (n s3 pO (n (i4 28) eG o)))) (n s4 (n vy (n (i4 6) (n s3 cG s72) tP) (n s3 (n vw eG o) pO)) (n tQ (n aJ s86 (n aJ s92 o)) (n s3 (n xL eG o) (n aJ s79 o))))) (n vy (n aJ (n sP (n lv (n (i4 191) eG eG) s84) (n pE (n (i4 10) (L1 (i4 102)) o) (n vw eG o))) (n tQ (n s3 (n aJ (L1 s4) o) pO) (n (i4 11) (n (i4 6) cG o) s96))) (n zL (n s89 (n s3 (n s6 eG (L1 pE)) (n pE cG o)) (n (i4 12) s96 (n s3 (L1 (i4 103)) o))) (n s0 (n s4 (n s0 s72 o) s96) (n pE (n xL s88 o) (n s7 cG o)))))) (n s7 (n aJ (n s6 (n lv (n s4 (n (i4 63) s94 cG) (n (i4 8) eG o)) (n (i4 18) pO (n s3 s75 o))) (n (i4 9) (n (i4 10) (n sP (L1 vw) o) (n s61 s73 o)) (n aJ s95 (n xL s72 o)))) (n s6 (n (i4 8) (n sP (n (i4 255) s92 eG) pO) (n vw (n (i4 8) eG o) (n s0 s64 o))) (n s3 (n s6 (n sP cG o) s91) (n s6 s87 tP)))) (n s3 (n pE (n (i4 98) (n s3 (n s3 eG cG) s76) (n (i4 8) (n aJ s80 o) (n s4 cG o))) (n s0 (n s0 pO s83) (n aJ s83 s84))) (n n7 (n (i4 105) (n pE (n s4 (L1 (i4 31)) cG) (n s4 s64 o)) (n aJ s83 (n xL s80 o))) (n (i4 112) (n s7 s93 (n sP zM o)) (n (i4 15) (n s6 s81 o) (n s4 (L1 (i4 29)) o))))))))) o o), 1, [], 0⟩
def vV : Row := s123
def xU : AV := s1
def wC : Hp := ⟨o, 0, [], 0⟩
def vY : Row := (L1 s140)
def xX : AV := s1
def wF : Hp := ⟨o, 0, [], 0⟩
def vZ : Row := (L1 s141)
def xY : AV := s1
def wG : Hp := ⟨o, 0, [], 0⟩
def vW : Row := (L2 s141 s1)
def xV : AV := s142
def wD : Hp := ⟨(n s143 (n (.row true false 1 152 s145) (n (.row true false 6 6 s146) o o) o) ky), 4, [], 0⟩
def w7 : Row := (L1 s148)
def xZ : AV := s1
def wH : Hp := ⟨o, 0, [], 0⟩
def vX : Row := (L2 s148 s1)
def xW : AV := (.bM (L4 (kE jD jE cP jL jM cF s5 di (.ms 0 0 24 1) (.ms 2 0 1 2) (.ms 3 0 1 6) (i3 2)) aJ s1 s1) 4)
def wE : Hp := ⟨(n s143 (n (.row true false 1 152 s150) (n (.row true false 6 6 s151) o o) o) ky), 4, [], 0⟩
def wc : Row := (L1 s152)
def y6 : AV := s1
def wJ : Hp := ⟨o, 0, [], 0⟩
def q8 : Row := (L2 s152 s1)
def tf : AV := (.bM (L4 (kE jD jE cP jL jM cF s5 di (.ms 0 0 24 1) (.ms 2 0 1 2) (.ms 3 0 1 6) (i3 3)) aJ s1 s1) 4)
def qY : Hp := ⟨(n s143 (n (.row true false 1 152 s154) (n (.row true false 6 6 s155) o o) o) ky), 4, [], 0⟩
def qj : Row := (L1 s156)
def tz : AV := s1
def rm : Hp := ⟨o, 0, [], 0⟩
def q9 : Row := (L2 s156 s1)
def tg : AV := (.bM (L4 (kE jD jE cP jL jM cF s5 di (.ms 0 0 32 1) (.ms 2 0 1 2) (.ms 3 0 1 6) s5) aJ s1 s1) 4)
def qZ : Hp := ⟨(n s158 (n s163 (n (.row true false 6 6 s164) o o) o) ky), 4, [], 0⟩
def qk : Row := (L1 s167)
def tA : AV := s1
def rn : Hp := ⟨o, 0, [], 0⟩
def qa : Row := (L2 s167 s1)
def th : AV := (.bM (L4 (kE jD jE cP jL jM cF s5 di (.ms 0 0 32 1) (.ms 2 0 1 2) (.ms 3 0 1 6) (i3 5)) aJ s1 s1) 4)
def r6 : Hp := ⟨(n s158 (n s163 (n (.row true false 6 6 s168) o o) o) ky), 4, [], 0⟩
def ql : Row := (L1 s169)
def tB : AV := s1
def rp : Hp := ⟨o, 0, [], 0⟩
def qb : Row := (L2 s169 s1)
def tj : AV := (.bM (L4 (kE jD jE cP jL jM cF s5 di (.ms 0 0 32 1) (.ms 2 0 1 2) (.ms 3 0 1 6) (i3 6)) aJ s1 s1) 4)
def r8 : Hp := ⟨(n s158 (n s163 (n (.row true false 6 6 s170) o o) o) ky), 4, [], 0⟩
def qm : Row := (L1 s171)
def tC : AV := s1
def rq : Hp := ⟨o, 0, [], 0⟩
def qc : Row := (L2 s171 s1)
def tk : AV := (.bM (L4 (kE jD jE cP jL jM cF s5 di (.ms 0 0 32 1) (.ms 2 0 1 2) (.ms 3 0 1 6) (i3 7)) aJ s1 s1) 4)
def re : Hp := ⟨(n s158 (n (.row true false 1 152 s173) (n (.row true false 6 6 s174) o o) o) ky), 4, [], 0⟩
def qo : Row := (L1 s175)
def tD : AV := s1
def rr : Hp := ⟨o, 0, [], 0⟩
def qd : Row := (L2 s175 s1)
def tm : AV := (.bM (L4 (kE jD jE cP jL jM cF s5 di (.ms 0 0 48 1) (.ms 2 0 1 2) (.ms 3 0 1 6) (i3 8)) aJ s1 s1) 4)
def rf : Hp := ⟨(n (.row true false 1 48 s177) (n (.row true false 1 152 s180) (n (.row true false 6 6 s181) o o) o) ky), 4, [], 0⟩
def qp : Row := (L1 s182)
def tE : AV := s1
def ru : Hp := ⟨o, 0, [], 0⟩
def qe : Row := (L2 s182 s1)
def tn : AV := (.bM (L4 (kE jD jE cP jL jM cF s5 di (.ms 0 0 72 1) (.ms 2 0 1 2) (.ms 3 0 1 6) (i3 9)) aJ s1 s1) 4)
def rh : Hp := ⟨(n s185 (n (.row true false 1 152 s188) (n (.row true false 6 6 s189) o o) o) ky), 4, [], 0⟩
def qq : Row := (L1 s191)
def tF : AV := s1
def rv : Hp := ⟨o, 0, [], 0⟩
def qf : Row := (L2 s191 s1)
def tq : AV := (.bM (L4 (kE jD jE cP jL jM cF s5 di (.ms 0 0 72 1) (.ms 2 0 1 2) (.ms 3 0 1 6) (i3 10)) aJ s1 s1) 4)
def ri : Hp := ⟨(n s185 (n s193 (n (.row true false 6 6 s194) o o) o) ky), 4, [], 0⟩
def qs : Row := (L1 s196)
def tG : AV := s1
def ry : Hp := ⟨o, 0, [], 0⟩
def qg : Row := (L2 s196 s1)
def tu : AV := (.bM (L4 (kE jD jE cP jL jM cF s5 di (.ms 0 0 72 1) (.ms 2 0 1 2) (.ms 3 0 1 6) (i3 11)) aJ s1 s1) 4)
def rj : Hp := ⟨(n s185 (n s193 (n (.row true false 6 6 s197) o o) o) ky), 4, [], 0⟩
def qt : Row := (L1 s198)
def tH : AV := s1
def rz : Hp := ⟨o, 0, [], 0⟩
def qh : Row := (L2 s198 s1)
def tv : AV := (.bM (L4 (kE jD jE cP jL jM cF s5 di (.ms 0 0 128 1) (.ms 2 0 1 2) (.ms 3 0 1 6) (i3 12)) s0 s1 s1) 4)
def rk : Hp := ⟨(n (.row true false 1 128 s202) (n s193 (n (.row true false 6 6 s203) o o) o) ky), 4, [], 0⟩
def qu : Row := (L1 (kE jD jE cP jL jM cF s5 di (.vs s202 0 128 1) s195 (.vs s203 0 1 6) (i3 12)))
def tI : AV := s1
def rA : Hp := ⟨o, 0, [], 0⟩
def qi : Row := (L2 s140 s1)
def tw : AV := s142
def rl : Hp := ⟨(n s143 (n (.row true false 1 152 s145) (n (.row true false 6 6 s146) o o) o) ky), 4, [], 0⟩
def pX : Row := (L2 s122 (G5 (.vs s115 0 20 1) jL jM cF s5))
def sZ : AV := (.bM (L3 (.ms 0 0 12 7) (G3 s0 s1 (i3 12)) s1) 3)
def qV : Hp := ⟨(n (.row true true 7 84 (n (G7 s1 s1 s1 s1 s3 s9 aJ) (n (G7 s9 s1 s1 s9 s6 s9 aJ) (n (G7 (i3 3) s1 s1 (i3 3) (i4 15) s9 aJ) (L1 (G7 (i3 7) s1 s1 (i3 7) (i4 18) s9 aJ)) (L1 (G7 (i3 11) s1 s1 (i3 11) (i4 28) s9 s0))) (n (G7 (i3 5) s1 s1 (i3 5) s4 s9 aJ) (L1 (G7 (i3 9) s1 s1 (i3 9) (i4 12) s9 aJ)) o)) (n (G7 (i3 2) s1 s1 (i3 2) s0 s9 aJ) (n (G7 s5 s1 s1 s5 s4 s9 aJ) (L1 (G7 (i3 8) s1 s1 (i3 8) (i4 15) s9 aJ)) o) (n (G7 (i3 6) s1 s1 (i3 6) s3 s9 aJ) (L1 (G7 (i3 10) s1 s1 (i3 10) vw s9 aJ)) o)))) o o), 1, [], 0⟩
def qv : Row := s205
def tJ : AV := (.bM (L2 s2 (i3 8)) 2)
def rB : Hp := ⟨o, 0, [], 0⟩
def pZ : Row := s205
def td : AV := (i3 8)
def qX : Hp := ⟨o, 0, [], 0⟩
def pY : Row := (L2 s204 (G5 s2 s1 s1 s1 s1))
def tc : AV := (.bM (L3 s2 (G3 aJ s1 s1) (i3 8)) 3)
def qW : Hp := ⟨o, 0, [], 0⟩
end
end Go.Proofs.YtdlohaedegmiaaaGreatDoor.Tz
