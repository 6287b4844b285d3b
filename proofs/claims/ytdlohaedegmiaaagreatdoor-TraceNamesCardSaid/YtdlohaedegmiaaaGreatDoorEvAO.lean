import Derived.Test.YtdlohaedegmiaaaGreatDoorEvAB
import Derived.Test.YtdlohaedegmiaaaGreatDoorEvAN
import Derived.Lib.Bytealg
import Derived.Lib.Index
import Derived.Lib.Atoi
import Derived.Below
import Derived.Lib.AtoiErrMem
import Derived.DefersIn
namespace Go.Proofs.YtdlohaedegmiaaaGreatDoor.Ev
theorem eu {C : Cx} {vs : Vs} {μ0 : Mu} {F0 : Nat → Prop} {h0 : Hp} {w0 : World} {fr3 : Fr} {h3 : Hp} {a : Act} {w : World} (S : At C vs (.of 0) μ0 F0 h0 w0 .e .lf fr3 h3 a w) {b : Nat} {m : Mp} (hm : μ0 b = some m) (hpr : b ∉ h0.pr) {f i st : Nat} {fr : Fr} {h4 : Hp} (hB : h3.at b = .loop 1 f i fr) (hs : br h3 b (.loop st f i fr) h4) (j : Option Code)
    (hst : (st = 0 ∧ j = none) ∨ (st = 2 ∧ j = some .ret) ∨ (∃ id, st = 2 * id + 3 ∧ j = some (.exit id)) ∨ (∃ l, st = 2 * l + 1 + 3 ∧ j = some (.goto l))) :
    ∃ v w', (Instr.endRound m.aF j).run C.P w = .ok v w' ∧ ∃ x, Ending.returned v = .returned x ∧ ∃ μ' F', ae w' F' μ' (.bool j.isNone) x ∧ (∀ b, μ' b ≠ none → μ0 b ≠ none ∨ h0.nx ≤ b) ∧ au (C.env vs) μ' F' ⟨h4.t, h4.nx, h0.pr, h0.rb⟩ w' ∧ Ext μ0 F0 h0 w0 μ' F' ⟨h4.t, h4.nx, h0.pr, h0.rb⟩ w' := by
  obtain ⟨μ, F, S, E⟩ := S
  have hpr3 : h3.pr = h0.pr := E.ext.pr
  obtain ⟨L, hL, hrel, H⟩ := jo S.h hB (by rw [hpr3]; exact hpr) (E.ext.mu b m hm)
  refine ⟨_, _, pD hL, _, rfl, ?_⟩
  obtain ⟨g1, g2⟩ := H (L' := { L with state := if j.isNone then .ready else .done, pending := j }) hs (by
    refine ⟨hrel.1, hrel.2.1, hrel.2.2.1, ?_⟩
    rcases hst with ⟨rfl, rfl⟩ | ⟨rfl, rfl⟩ | ⟨id, rfl, rfl⟩ | ⟨l, rfl, rfl⟩
    · exact ⟨rfl, rfl⟩
    · exact ⟨rfl, rfl⟩
    · exact ⟨rfl, .inl ⟨id, rfl, rfl⟩⟩
    · exact ⟨rfl, .inr ⟨l, rfl, rfl⟩⟩)
  have e := E.trans (.of g2 fun b hb => .inl hb)
  refine ⟨μ, F, .bool _, e.ids, ⟨g1.aF, g1.dw, g1.et, g1.fN, g1.jk⟩, ?_⟩
  have e1 := e.ext
  have hp4 : h4.pr = h0.pr := e1.pr
  exact ⟨e1.mu, e1.fr, e1.size, e1.keep, fun B ⟨b, m, o1, o2, o3, o4⟩ => e1.own B ⟨b, m, o1, fun hm => o2 (show b ∈ h0.pr from hp4 ▸ hm), o3, o4⟩, e1.wb, e1.iq, e1.eW, e1.nx, rfl, rfl, e1.io⟩
theorem a3u {C : Cx} {vs : Vs} (X : oD C vs) (hv : vs C.self = C.nt :: C.vars) {M : Mem} (ok : aT M) {R : ab} (hR : R ≠ .fail) {i b : Nat} {l : Row} {hp : Hp} {fr0 : Fr} {k : AV → Hp → ab} (hB : hp.at b = .loop 0 C.self i fr0) (hpr : b ∉ hp.pr)
    (h : (ab.rec (motive := fun _ => ab) (fun fr1 h1 => Hp.rec (motive := fun _ => ab) (fun _ _ pr rb => yc M b pr rb (nw C i) fr1 h1 k) hp) (fun _ _ _ => .fail) (fun _ _ => .fail) (fun _ _ => .fail) .fail ((nw C i).f fr0 l hp) : ab) = R) :
    ∃ v hp', k v hp' = R ∧ lh (C.env vs) b l hp v hp' := by
  rcases a3t (C := C) (i := i) with e | ⟨fn, c, ps, x, y, hfn, hc, hrf, hx, hy, hf, hg⟩
  · rw [e] at h; exact aa hR h
  · generalize hRa : (nw C i).f fr0 l hp = Ra at h
    cases Ra with
    | ok fr1 h1 =>
      have h' : yc M b hp.pr hp.rb (nw C i) fr1 h1 k = R := by cases hp; exact h
      rw [hf] at hRa
      obtain ⟨fr0', hRa', hlen, HK⟩ := sQ (by simp) hRa
      have g1 := bu ok hR h'
      obtain ⟨st, f', i', fr', hB1, g2⟩ := fD hR g1
      obtain ⟨hst0, g3⟩ := ah hR g2
      rw [an] at hst0
      subst hst0
      obtain ⟨h2, hset2, _, g4⟩ := bw ok hR g3
      generalize hRb' : (nw C i).g fr1 h2 = Rb at g4
      have hRb : ((den C y).run .e (fun _ => jv) (dS (a0R c)) ku).run .lf fr1 h2 = Rb := by rw [hg] at hRb'; exact hRb'
      have hRb0 : Rb ≠ .fail := fun e => by rw [e] at g4; exact hR g4.symm
      have fin : ∃ (st : Nat) (j : Option Code) (fr3 : Fr) (h3 : Hp) , n3 M b hp.pr hp.rb st j.isNone h3 k = R ∧ ((Rb = .ok fr3 h3 ∧ st = 0 ∧ j = none) ∨ (Rb = .ret fr3 h3 ∧ st = 2 ∧ j = some .ret) ∨ (∃ id, Rb = .exit (2 * id) fr3 h3 ∧ st = 2 * id + 3 ∧ j = some (.exit id)) ∨ (∃ l, Rb = .exit (2 * l + 1) fr3 h3 ∧ st = 2 * l + 1 + 3 ∧ j = some (.goto l))) := by
        cases Rb with
        | ok fr3 h3 => exact ⟨0, none, fr3, h3, g4, .inl ⟨rfl, rfl, rfl⟩⟩
        | ret fr3 h3 => exact ⟨2, some .ret, fr3, h3, g4, .inr (.inl ⟨rfl, rfl, rfl⟩)⟩
        | exit n fr3 h3 =>
          rcases Nat.mod_two_eq_zero_or_one n with e | e
          · have en : n = 2 * (n / 2) := by omega
            exact ⟨n + 3, some (.exit (n / 2)), fr3, h3, g4, .inr (.inr (.inl ⟨n / 2, by rw [← en], by omega, rfl⟩))⟩
          · have en : n = 2 * (n / 2) + 1 := by omega
            exact ⟨n + 3, some (.goto (n / 2)), fr3, h3, g4, .inr (.inr (.inr ⟨n / 2, by rw [← en], by omega, rfl⟩))⟩
        | _ => exact aa hR g4
      obtain ⟨st, j, fr3, h3, g5, hway⟩ := fin
      obtain ⟨f3, i3, fr3', h4, hB3, hset4, g6⟩ := vM ok hR g5
      refine ⟨_, _, g6, fun w μ F m args r n hH hm ha => ?_⟩
      obtain ⟨L, hL, ⟨⟨fn', c', ps', x', y', q1, q2, q3, q4, q5, q6⟩, hnt, hfr, hst⟩, _⟩ := jo hH hB hpr hm
      have q1' : C.P.funcs[C.self]? = some fn' := q1
      rw [hfn] at q1'; cases q1'
      rw [hc] at q2; cases q2
      rw [hrf] at q3; cases q3
      have hnt' : C.nt ≤ L.tmps.size := by
        have e : (vs C.self).headD 0 ≤ L.tmps.size := hnt
        rw [hv] at e; exact e
      have hfr' : zN C w F μ fr0 L.tmps := fun t j e => hfr t j (by
        show idxOf t (vs C.self).tail 0 = .f j
        rw [hv]; exact e)
      have hlen2 : args.toList.length = ps.length := by rw [Array.length_toList, ← ha.1, hlen]
      obtain ⟨k1, k2⟩ := HK (w := w) (F := F) (μ := μ) (T := L.tmps) (args := args.toList) hnt' hfr' hlen2 fun i u e => ha.2 i u (by rw [← Array.getElem?_toList]; exact e)
      refine ⟨L.fn, kr L.tmps (ps.zip args.toList), L.assign, L.body, ?_, ?_⟩
      · have hsz : ¬ args.size ≠ L.params.size := by
          rw [← Array.length_toList (xs := L.params), q4, ← hlen, ha.1]; simp
        show Sem.run C.P _ w = _
        simp only [Instr.yield, Sem.run_bind, eF hL, Result.andThen_ok, hsz, if_false, Sem.run_pure, zo, q4]
      · rw [q5, q6]
        refine roundIn_of_wpIn trivial ?_
        have hSt : St C (C.env vs) (.of w.heap.size) .e .lf fr0' hp μ F { tmps := kr L.tmps (ps.zip args.toList), defers := [] } w := by
          refine ⟨bN.e, fun t => ?_, hH, ?_, ⟨[], rfl, trivial⟩⟩
          · show ae w F μ (sv 0 (look C .e t) .lf fr0') _
            have e : look C .e t = idxOf t C.vars 0 := rfl
            rw [e]
            rcases dB (l := C.vars) (t := t) (i := 0) with ⟨j, hj⟩ | hj
            · rw [hj]; exact k1 t j hj
            · rw [hj]; exact .uu _
          · show C.nt ≤ (kr L.tmps (ps.zip args.toList)).size
            rw [k2]; exact hnt'
        refine (sO (r := some m.aF) (n := n) X x (by rw [hx]; exact fun z hz => (by cases hz))).1 (s0 := .of 0) (by simp) hRa' ⟨μ, F, hSt, bR.refl _ _ _ _⟩ (fun g' sk' fr1' h1' a1 w1 e S1 => ?_) (fun id fr2 hp2 a' w' e _ => by cases e) (fun l fr2 hp2 a' w' e _ => by cases e) (fun fr2 hp2 a' w' e _ => by cases e)
        have e1 : ab.ok fr1' h1' = .ok fr1 h1 := e
        cases e1
        obtain ⟨μ1, F1, S1, E1⟩ := S1.drop
        have hpr1 : h1.pr = hp.pr := E1.ext.pr
        obtain ⟨L1, hL1, hrel1, H1⟩ := jo S1.h hB1 (by rw [hpr1]; exact hpr) (E1.ext.mu b m hm)
        refine ⟨_, mN hL1 hrel1.2.2.2.1, ?_⟩
        obtain ⟨p1, p2⟩ := H1 (L' := { L1 with state := .busy }) hset2 ⟨hrel1.1, hrel1.2.1, hrel1.2.2.1, rfl⟩
        have S2 : At C vs (.of 0) μ F hp w .e .lf fr1 h2 a1 { w1 with heap := w1.heap.setIfInBounds m.aF (.loop { L1 with state := .busy }) } :=
          ⟨μ1, F1, ⟨S1.gi, fun t => (S1.sl t).ext S1.h p2, p1, S1.nt, S1.df.ext p2⟩, E1.trans (.of p2 fun b hb => .inl hb)⟩
        refine (sO (r := some m.aF) (n := n) X y (by rw [hy]; exact fun z hz => (by cases hz))).1 (s0 := .of 0) hRb0 hRb S2 (fun g' sk' fr' hp' a' w' e S' => ?_) (fun id fr' hp' a' w' e S' => ?_) (fun l fr' hp' a' w' e S' => ?_) (fun fr' hp' a' w' e S' => ?_)
        · have e0 : Rb = .ok fr' hp' := e.symm
          rcases hway with ⟨z, z1, z2⟩ | ⟨z, z1, z2⟩ | ⟨id, z, z1, z2⟩ | ⟨l, z, z1, z2⟩ <;> rw [e0] at z <;> cases z
          subst z2
          exact eu S'.drop hm hpr hB3 hset4 none (.inl ⟨z1, rfl⟩)
        · have e0 := eR hRb0 e
          rcases hway with ⟨z, z1, z2⟩ | ⟨z, z1, z2⟩ | ⟨id', z, z1, z2⟩ | ⟨l, z, z1, z2⟩ <;> rw [e0] at z
          · cases z
          · cases z
          · injection z with z3 z4 z5
            subst z4; subst z5
            have : id = id' := by omega
            subst this
            subst z2
            exact eu S' hm hpr hB3 hset4 _ (.inr (.inr (.inl ⟨id, z1, rfl⟩)))
          · injection z with z3; omega
        · have e0 := eR hRb0 e
          rcases hway with ⟨z, z1, z2⟩ | ⟨z, z1, z2⟩ | ⟨id', z, z1, z2⟩ | ⟨l', z, z1, z2⟩ <;> rw [e0] at z
          · cases z
          · cases z
          · injection z with z3; omega
          · injection z with z3 z4 z5
            subst z4; subst z5
            have : l = l' := by omega
            subst this
            subst z2
            exact eu S' hm hpr hB3 hset4 _ (.inr (.inr (.inr ⟨l, z1, rfl⟩)))
        · have e0 : Rb = .ret fr' hp' := e.symm
          rcases hway with ⟨z, z1, z2⟩ | ⟨z, z1, z2⟩ | ⟨id, z, z1, z2⟩ | ⟨l, z, z1, z2⟩ <;> rw [e0] at z <;> cases z
          subst z2
          exact eu S' hm hpr hB3 hset4 _ (.inr (.inl ⟨z1, rfl⟩))
    | _ => exact aa hR h
inductive kF : Env → Nat → Nat → cq → Prop
  | mk {C : Cx} {vs : Vs} {i : Nat} (X : oD C vs) (hv : vs C.self = C.nt :: C.vars) : kF (C.env vs) C.self i (nw C i)
theorem a5q {V : Env} {f i : Nat} {Y : cq} (hY : kF V f i Y) {M : Mem} (ok : aT M) {R : ab} (hR : R ≠ .fail) {b : Nat} {l : Row} {hp : Hp} {fr0 : Fr} {k : AV → Hp → ab} (hB : hp.at b = .loop 0 f i fr0) (hpr : b ∉ hp.pr)
    (h : (ab.rec (motive := fun _ => ab) (fun fr1 h1 => Hp.rec (motive := fun _ => ab) (fun _ _ pr rb => yc M b pr rb Y fr1 h1 k) hp) (fun _ _ _ => .fail) (fun _ _ => .fail) (fun _ _ => .fail) .fail (Y.f fr0 l hp) : ab) = R) :
    ∃ v hp', k v hp' = R ∧ lh V b l hp v hp' := by
  cases hY with
  | mk X hv => exact a3u X hv ok hR hB hpr h
theorem zH {C : Cx} {V : Env} (ok : aT C.M) (hy : ∀ p ∈ C.yl, kF V p.1 p.2.1 p.2.2) : Yields C V := by
  intro b l hp k R hR h
  unfold a3s at h
  have key : ∀ X : ab, eC b hp X = kR b hp.pr X := fun X => by cases hp; rfl
  obtain ⟨hpr, h1⟩ := ig hR ((key _).symm.trans h)
  have h2 := bu ok hR h1
  obtain ⟨st, f, i, fr0, hB, h3⟩ := fD hR h2
  obtain ⟨hst, h4⟩ := ah hR h3
  rw [an] at hst
  subst hst
  have hor : a3r C f i = fQ ∨ kF V f i (a3r C f i) := by
    unfold a3r
    revert hy
    generalize C.yl = L
    intro hy
    induction L with
    | nil => exact .inl rfl
    | cons p L ih =>
      have ih := ih fun q hq => hy q (List.mem_cons_of_mem _ hq)
      have hp := hy p (List.mem_cons_self ..)
      show (Bool.rec (motive := fun _ => cq) (List.rec (motive := fun _ => cq) fQ (fun a _ ih => Bool.rec (motive := fun _ => cq) ih (Bool.rec (motive := fun _ => cq) ih a.2.2 (Nat.beq a.2.1 i)) (Nat.beq a.1 f)) L) (Bool.rec (motive := fun _ => cq) (List.rec (motive := fun _ => cq) fQ (fun a _ ih => Bool.rec (motive := fun _ => cq) ih (Bool.rec (motive := fun _ => cq) ih a.2.2 (Nat.beq a.2.1 i)) (Nat.beq a.1 f)) L) p.2.2 (Nat.beq p.2.1 i)) (Nat.beq p.1 f) : cq) = fQ ∨ kF V f i (Bool.rec (motive := fun _ => cq) (List.rec (motive := fun _ => cq) fQ (fun a _ ih => Bool.rec (motive := fun _ => cq) ih (Bool.rec (motive := fun _ => cq) ih a.2.2 (Nat.beq a.2.1 i)) (Nat.beq a.1 f)) L) (Bool.rec (motive := fun _ => cq) (List.rec (motive := fun _ => cq) fQ (fun a _ ih => Bool.rec (motive := fun _ => cq) ih (Bool.rec (motive := fun _ => cq) ih a.2.2 (Nat.beq a.2.1 i)) (Nat.beq a.1 f)) L) p.2.2 (Nat.beq p.2.1 i)) (Nat.beq p.1 f))
      cases e1 : Nat.beq p.1 f with
      | false => exact ih
      | true =>
        cases e2 : Nat.beq p.2.1 i with
        | false => exact ih
        | true =>
          rw [an] at e1 e2
          rw [← e1, ← e2]
          exact .inr hp
  rcases hor with e | hY
  · rw [e] at h4; exact aa hR h4
  · exact a5q hY ok hR hB hpr h4
theorem a56 : ∀ (c : Code), (bn c = [] → ∀ i, cf i c = none) ∧ ((bn c).length ≤ 1 → ∀ z ∈ bn c, cf (z.2.1.getD 0 0) c = some (z.2.1.toList, z.2.2.1, z.2.2.2)) := by
  intro c
  have two : ∀ (a b : Code) (i : Nat), (bn a = [] → ∀ i, cf i a = none) ∧ ((bn a).length ≤ 1 → ∀ z ∈ bn a, cf (z.2.1.getD 0 0) a = some (z.2.1.toList, z.2.2.1, z.2.2.2)) → (bn b = [] → ∀ i, cf i b = none) ∧ ((bn b).length ≤ 1 → ∀ z ∈ bn b, cf (z.2.1.getD 0 0) b = some (z.2.1.toList, z.2.2.1, z.2.2.2)) →
      (bn a ++ bn b = [] → (Option.rec (motive := fun _ => Option (List Nat × Code × Code)) (cf i b) some (cf i a) : Option _) = none) ∧ ((bn a ++ bn b).length ≤ 1 → ∀ z ∈ bn a ++ bn b, (Option.rec (motive := fun _ => Option (List Nat × Code × Code)) (cf (z.2.1.getD 0 0) b) some (cf (z.2.1.getD 0 0) a) : Option _) = some (z.2.1.toList, z.2.2.1, z.2.2.2)) := by
    intro a b i ⟨a1, a2⟩ ⟨b1, b2⟩
    refine ⟨fun h => ?_, fun h z hz => ?_⟩
    · obtain ⟨h1, h2⟩ := List.append_eq_nil_iff.1 h
      rw [a1 h1 i]; exact b1 h2 i
    · rw [List.length_append] at h
      rcases List.mem_append.1 hz with hz | hz
      · rw [a2 (by omega) z hz]
      · have : bn a = [] := List.length_eq_zero_iff.1 (by have := List.length_pos_of_mem hz; omega)
        rw [a1 this]; exact b2 (by omega) z hz
  induction c with
  | seq a b iha ihb =>
    have e : bn (.seq a b) = bn a ++ bn b := j9 _ _
    rw [e]
    exact ⟨fun h i => (two a b i iha ihb).1 h, fun h z hz => (two a b 0 iha ihb).2 h z hz⟩
  | cond o a b iha ihb =>
    have e : bn (.cond o a b) = bn a ++ bn b := j9 _ _
    rw [e]
    exact ⟨fun h i => (two a b i iha ihb).1 h, fun h z hz => (two a b 0 iha ihb).2 h z hz⟩
  | block id b ih => exact ih
  | loop b ih => exact ih
  | scope b ih => exact ih
  | rangeFunc f ps a b iha ihb =>
    have e : bn (.rangeFunc f ps a b) = (f, ps, a, b) :: (bn a ++ bn b) := congrArg (_ :: ·) (j9 _ _)
    rw [e]
    refine ⟨(fun h => by cases h), fun h z hz => ?_⟩
    have h0 : (bn a ++ bn b) = [] := List.length_eq_zero_iff.1 (by rw [List.length_cons] at h; omega)
    rw [h0, List.mem_singleton] at hz
    subst hz
    show (Bool.rec (motive := fun _ => Option (List Nat × Code × Code)) (cf (ps.getD 0 0) b) (some (ps.toList, a, b)) (Nat.beq (ps.getD 0 0) (ps.getD 0 0)) : Option _) = _
    rw [show Nat.beq (ps.getD 0 0) (ps.getD 0 0) = true from by rw [an]]
  | _ => exact ⟨fun _ _ => rfl, fun _ z hz => (by cases hz)⟩
theorem qC {w : World} {F : Nat → Prop} {μ : Mu} {u l l2 : Row} {a n m : Nat} {vf : Value} {aas : Array Value} (hc : ae w F μ (.x 3 u a n m) vf) (hA : eI w F μ l aas) (q2 : len l2 = len u + len l) (q3 : ∀ i, nth l2 i = if i < n then nth u i else if i < n + len l then nth l (i - n) else nth u (i - len l)) :
    ∃ fs cs, vf = .func (.func a) fs cs ∧ eI w F μ l2 (fs ++ aas ++ cs) := by
  cases hc with
  | @fn _ _ _ _ _ fs cs us e1 e2 e3 hu hv hx =>
    refine ⟨fs, cs, rfl, ?_, fun j u' hj => ?_⟩
    · rw [q2, hA.1, e3]; simp only [Array.size_append]; omega
    · have hls : len l = aas.size := hA.1
      rw [q3]
      by_cases c1 : j < n
      · rw [if_pos c1]
        rw [Array.append_assoc, Array.getElem?_append_left (by omega), hu j c1] at hj
        cases hj
        exact hx j (by omega)
      · rw [if_neg c1]
        by_cases c2 : j < n + len l
        · rw [if_pos c2]
          rw [Array.getElem?_append_left (by rw [Array.size_append]; omega), Array.getElem?_append_right (by omega), e1] at hj
          exact hA.2 _ _ hj
        · rw [if_neg c2]
          rw [Array.getElem?_append_right (by rw [Array.size_append]; omega), Array.size_append, e1, ← hls] at hj
          have hjm : j - (n + len l) < m := by
            rcases Nat.lt_or_ge (j - (n + len l)) m with q | q
            · exact q
            · rw [Array.getElem?_eq_none (by omega)] at hj; cases hj
          rw [hv _ hjm] at hj
          cases hj
          have hix : j - len l = n + (j - (n + len l)) := by omega
          rw [hix]
          exact hx _ (by omega)
theorem a5j {C : Cx} {V : Env} {s0 : ek} {g : G} {sk : Row} {fr : Fr} {hp : Hp} {μ : Mu} {F : Nat → Prop} {a : Act} {w : World} (S : St C V s0 g sk fr hp μ F a w) : St C V s0 .e .lf fr hp μ F a w := by
  refine ⟨bN.e, fun t => ?_, S.h, S.nt, S.df⟩
  have e : look C .e t = idxOf t C.vars 0 := rfl
  show ae w F μ (sv 0 (look C .e t) .lf fr) _
  rw [e]
  rcases dB (l := C.vars) (t := t) (i := 0) with ⟨j, hj⟩ | hj
  · rw [hj]
    have h1 := S.sl t
    have hl : look C g t = .f j := by
      rw [look_eq]
      rcases dJ (z := idxOf t C.vars 0) (t := t) (l := g.m) with ⟨x, p1, p2, _⟩ | ⟨_, p2⟩
      · have := S.gi.nv x p1
        rw [p2, kb hj] at this; cases this
      · rw [p2]; exact hj
    unfold sig at h1
    rw [hl] at h1
    exact h1
  · rw [hj]; exact .uu _
theorem nX {s0 : ek} {h : Hp} {μ : Mu} {F : Nat → Prop} {w : World} : ∀ {ds : List Deferred}, dr s0 h μ F w ds → ∀ d ∈ ds, ∃ r, d.target = .collected r ∧ r < w.heap.size
  | [], _, _, hd => (by cases hd)
  | _ :: _, ⟨⟨r, h1, _, h3, _⟩, hr⟩, d', hd => by
    rcases List.mem_cons.1 hd with rfl | hd
    · exact ⟨r, h1, h3⟩
    · exact nX hr d' hd
theorem gK {P : Program} {w : World} {l : Nat} {L : Loop} (h : w.heap[l]? = some (.loop L)) (hs : L.state = .ready ∨ L.state = .done) : (Instr.endLoop l).run P w = .ok L.pending { w with heap := w.heap.setIfInBounds l (.loop { L with state := .exhausted }) } := by
  rcases hs with hs | hs <;> simp [Instr.endLoop, eF h, setObj, Sem.run, h, hs]
theorem nk {P : Program} {w : World} {f : FuncId} {T : Array Value} {ps : Array Tmp} {x y : Code} : (Instr.enterLoop f T ps x y none).run P w = .ok (w.heap.size + 1, [{ target := .collected w.heap.size, args := #[] }]) { w with heap := (w.heap.push (.deferred (some []))).push (.loop { state := .ready, pending := none, fn := f, tmps := T, params := ps, assign := x, body := y, defers := w.heap.size }) } := by
  simp [Instr.enterLoop, newObj, Sem.run]
  rfl
section
variable {C : Cx} {vs : Vs} (X : oD C vs) (hfn : ∀ p ∈ C.fn, ai (C.env vs) p.1 p.2) (hv : vs C.self = C.nt :: C.vars)
include X hfn hv
theorem aH.rangeFunc {fn : Func} {c : Code} (hself : C.P.funcs[C.self]? = some fn) (hbody : fn.body = some c) {n : Nat} {f : Operand} {ps : Array Tmp} {x y : Code} (hrf : cf (ps.getD 0 0) c = some (ps.toList, x, y)) : aH C vs none n (.rangeFunc f ps x y) := by
  intro s0 μ0 F0 h0 w0 g k ex rt sk fr hp R a w Q hR h ⟨μ, F, S, E⟩ hN hE hG hT
  have h1 := aE hR (C := C) (g := g) (x := f) (sk := sk) (fr := fr) (k := fun fv => fv.tO fun g u a n m => aq (Nat.beq g 3) ((jr C.M).f hp (.loop 0 C.self (ps.getD 0 0) fr) fun b hp =>
    eC b hp (kD n u (.nd (.x 5 .lf b 0 0) .lf .lf) fun l => cj (oW C a) l hp fun _ hp => hp.get C.M b fun B => B.kh fun st _ _ _ => hp.put C.M b .dead fun hp =>
      Nat.rec (motive := fun _ => ab) ((k .e).run .lf fr hp) (fun s _ => Nat.rec (motive := fun _ => ab) .fail (fun s _ => Nat.rec (motive := fun _ => ab) (rt.run .lf fr hp) (fun s _ => yF ex s fr hp) s) s) st))) h
  obtain ⟨q, u, fid, nn, mm, hfv, h2⟩ := fE hR h1
  obtain ⟨hq, h3⟩ := ah hR h2
  rw [an] at hq
  subst hq
  obtain ⟨h1', h4, hset1, hlt1⟩ := lq X.ok (hp := hp) hR rfl rfl h3
  have key : ∀ (h : Hp) (b : Nat) (Y : ab), eC b h Y = kR b h.pr Y := fun h b Y => by cases h; rfl
  obtain ⟨hpr1, h5⟩ := ig hR ((key _ _ _).symm.trans h4)
  obtain ⟨l2, h6, q1, q2, q3⟩ := iY hR h5
  obtain ⟨hcan, v, hp2, h7, hd⟩ := iX hR (oX hfn fid) h6
  have h8 := bu X.ok hR h7
  obtain ⟨st, f2, i2, fr2, hB2, h9⟩ := fD hR h8
  obtain ⟨h3', hset3, _, h10⟩ := bw X.ok hR h9
  refine wpIn_rangeFunc fun fnn _ => ?_
  let L : Loop := { state := .ready, pending := none, fn := fnn, tmps := a.tmps, params := ps, assign := x, body := y, defers := w.heap.size }
  let wa : World := { w with heap := w.heap.push (.deferred (some [])) }
  let w1 : World := { w with heap := (w.heap.push (.deferred (some []))).push (.loop L) }
  let m : Mp := ⟨w.heap.size + 1, 0, 0⟩
  have hnF : ¬ F m.aF := fun hF => by have := S.h.fN _ hF; have e : m.aF = w.heap.size + 1 := rfl; omega
  have hka : ∀ B, B < w.heap.size → wa.heap[B]? = w.heap[B]? := fun B hB => by
    show (w.heap.push _)[B]? = _
    rw [Array.getElem?_push, if_neg (by omega)]
  have hsa : wa.heap.size = w.heap.size + 1 := by show (w.heap.push _).size = _; rw [Array.size_push]
  have Ha : au (C.env vs) μ F hp wa := S.h.grow (by omega) hka (fun _ h => h) (fun _ h => .inl h) fun B hB => by have := S.h.fN B hB; omega
  have Ea : Ext μ F hp w μ F hp wa := ⟨fun _ _ h => h, fun _ h => h, by omega, fun B hB _ => hka B hB, fun _ h => .inr h, fun _ h => .inr h, fun _ h => .inl h, fun _ _ h => .inl h, Nat.le_refl _, rfl, rfl, ⟨rfl, rfl⟩⟩
  have Sd := a5j S
  have hid : μ hp.nx = none := ic S.h
  have hw1 : w1.heap = wa.heap.push (.loop L) := rfl
  have hw1s : w1.heap.size = w.heap.size + 2 := by rw [hw1, Array.size_push, hsa]
  have hk1 : ∀ B, B < w.heap.size → w1.heap[B]? = w.heap[B]? := fun B hB => by
    rw [hw1, Array.getElem?_push, if_neg (by omega)]; exact hka B hB
  obtain ⟨H1, E1⟩ := Ha.new (w' := w1) (B := .loop 0 C.self (ps.getD 0 0) fr) (m := m) hid hw1 hset1 hlt1 hsa.symm ⟨m, L, aD _ _ _, by
      show w1.heap[w.heap.size + 1]? = _
      rw [hw1, Array.getElem?_push, if_pos hsa.symm], hnF, ⟨fn, c, ps.toList, x, y, hself, hbody, hrf, rfl, rfl, rfl⟩, by
      show (vs C.self).headD 0 ≤ a.tmps.size
      rw [hv]; exact S.nt, fun t j e => by
      have e' : idxOf t C.vars 0 = .f j := by
        have e : idxOf t (vs C.self).tail 0 = .f j := e
        rw [hv] at e; exact e
      have h1 := Sd.sl t
      have h2 : sig C .e .lf fr t = sv 0 (idxOf t C.vars 0) .lf fr := rfl
      rw [h2, e'] at h1
      have h3 : ae w F μ (fr.at j) (a.tmps.getD t undef) := h1
      exact h3.mono (fun B hB => hk1 B (S.h.fN B hB)) (fun _ h => h) (ck m hid), rfl, rfl⟩
  have Ea1 := Ea.trans E1
  have hc := kj X.gl (a := a) S.h.jk f (fun t _ => S.sl t)
  rw [hfv] at hc
  have hA : eI w1 F (jK μ hp.nx m) (.nd (.x 5 .lf hp.nx 0 0) .lf .lf) #[.func (.yield (w.heap.size + 1)) #[] #[]] := by
    refine ⟨rfl, fun i u hi => ?_⟩
    cases i with
    | zero =>
      have : u = .func (.yield (w.heap.size + 1)) #[] #[] := by simpa using hi.symm
      subst this
      exact .yld (m := m) (aD _ _ _)
    | succ i => simp at hi
  obtain ⟨fs, cs, hfe, hargs⟩ := qC (hc.ext S.h Ea1) hA q2 q3
  refine ⟨w.heap.size + 1, [{ target := .collected w.heap.size, args := #[] }], w1, { target := .fn (.func fid) cs, args := fs ++ #[.func (.yield (w.heap.size + 1)) #[] #[]] }, w1, fid, fs ++ #[.func (.yield (w.heap.size + 1)) #[] #[]] ++ cs, w1, nk, ?_, fun _ _ => trivial, ?_, (fun h => by cases h), ?_⟩
  · show (Deferred.ofValue (a.eval f) (#[Operand.const (.func (.yield (w.heap.size + 1)) #[] #[])].map a.eval)).run C.P w1 = _
    rw [hfe]
    simp [Deferred.ofValue, Act.eval]
  · exact dF hcan _ _
  · refine lH ((hd w1 (jK μ hp.nx m) F _ (n - 1) H1 hargs).mono fun e w3 ⟨xx, e1, μ2, F2, hv2, hids, H2, E2⟩ => ?_)
    subst e1
    have hm2 : μ2 hp.nx = some m := E2.mu _ _ (aD _ _ _)
    have hpr2 : hp2.pr = h1'.pr := E2.pr
    have hprb : hp.nx ∉ hp2.pr := by rw [hpr2]; exact hpr1
    obtain ⟨L2, hL2, hrel2, _⟩ := jo H2 hB2 hprb hm2
    let w4 : World := { w3 with heap := w3.heap.setIfInBounds m.aF (.loop { L2 with state := .exhausted }) }
    obtain ⟨H3, E3⟩ := H2.set (w' := w4) (B := .dead) (by rw [hB2]; exact trivial) hprb hm2 (by show (w3.heap.setIfInBounds _ _).size = _; simp) (fun X hX => by
      show (w3.heap.setIfInBounds m.aF _)[X]? = _
      rw [Array.getElem?_setIfInBounds, if_neg (Ne.symm hX)]) hset3 trivial
    have E23 := E2.trans E3
    have Et := Ea1.trans E23
    have hwb1 : ¬ WB h1' (jK μ hp.nx m) w.heap.size := fun ⟨b', m', _, hm', e⟩ => by
      by_cases eb : b' = hp.nx
      · subst eb
        rw [aD] at hm'; cases hm'
        have : m.aF = w.heap.size + 1 := rfl
        omega
      · rw [bc μ m eb] at hm'
        have := (S.h.et _ _ hm').2
        omega
    have EC : bR μ F hp w μ2 F2 h3' w4 := .of Et fun b hb => by
      rcases hids b hb with h | h
      · by_cases eb : b = hp.nx
        · exact .inr (by omega)
        · rw [bc μ m eb] at h; exact .inl h
      · exact .inr (Nat.le_trans hset1.nx h)
    have SA : At C vs s0 μ0 F0 h0 w0 .e .lf fr h3' { a with defers := [{ target := .collected w.heap.size, args := #[] }] ++ a.defers } w4 := by
      refine ⟨μ2, F2, ⟨bN.e, fun t => (Sd.sl t).ext S.h Et, H3, S.nt, ?_⟩, E.trans EC⟩
      obtain ⟨ms, hms, hmk⟩ := S.df
      refine ⟨{ target := .collected w.heap.size, args := #[] } :: ms, by rw [hms]; rfl, ⟨w.heap.size, rfl, E.ext.size, by have := E23.size; omega, ?_, fun hw => ?_, fun hF => ?_, fun d' hd' e => ?_⟩, hmk.ext Et⟩
      · rw [E23.keep w.heap.size (by omega) fun ho => hwb1 ho.wb, hw1, Array.getElem?_push, if_neg (by omega)]
        show (w.heap.push _)[w.heap.size]? = _
        rw [Array.getElem?_push, if_pos rfl]
      · rcases E23.wb _ hw with h | h
        · omega
        · exact hwb1 h
      · rcases E23.iq _ hF with h | h | h
        · have := S.h.fN _ h; omega
        · omega
        · exact hwb1 h
      · obtain ⟨r, r1, r2⟩ := nX hmk d' hd'
        rw [r1] at e
        cases e; omega
    cases st with
    | zero =>
      have hs : L2.state = .ready ∧ L2.pending = none := hrel2.2.2.2
      refine ⟨L2.pending, w4, gK hL2 (.inl hs.1), ?_⟩
      rw [hs.2]
      exact hN .e .lf fr h3' _ w4 h10 SA
    | succ s =>
      cases s with
      | zero => exact aa hR h10
      | succ s =>
        cases s with
        | zero =>
          have hs : L2.state = .done ∧ L2.pending = some .ret := hrel2.2.2.2
          refine ⟨L2.pending, w4, gK hL2 (.inr hs.1), ?_⟩
          rw [hs.2]
          exact wpIn_ret (hT fr h3' _ w4 h10 SA)
        | succ s =>
          have hs : L2.state = .done ∧ ((∃ id, s = 2 * id ∧ L2.pending = some (.exit id)) ∨ (∃ l, s = 2 * l + 1 ∧ L2.pending = some (.goto l))) := hrel2.2.2.2
          have h11 : yF ex s fr h3' = R := h10
          rw [ll] at h11
          refine ⟨L2.pending, w4, gK hL2 (.inr hs.1), ?_⟩
          rcases hs.2 with ⟨id, e1, e2⟩ | ⟨l, e1, e2⟩
          · rw [e2]
            subst e1
            exact wpIn_exit (hE id fr h3' _ w4 h11 SA)
          · rw [e2]
            subst e1
            exact wpIn_goto (hG l fr h3' _ w4 h11 SA)
end
noncomputable def mM (C : Cx) : Bool := match jj C.P.funcs.toList C.self with
  | none => true
  | some fn => match fn.body with
    | none => true
    | some c => nj c
noncomputable def iQ (C : Cx) : Bool := match jj C.P.funcs.toList C.self with
  | none => true
  | some fn => !(fn.name == "runtime.NumGoroutine")
section
variable {C : Cx} {vs : Vs}
theorem wu (ok : aT C.M) (gl : ly C vs) (mo : C.P.follows .mixedOrders = true) (hfn : ∀ p ∈ C.fn, ai (C.env vs) p.1 p.2) (hy : ∀ p ∈ C.yl, kF (C.env vs) p.1 p.2.1 p.2.2) : oD C vs :=
  ⟨ok, gl, mo, a3Q ok hfn (zH ok hy)⟩
theorem uz (ok : aT C.M) (gl : ly C vs) (mo : C.P.follows .mixedOrders = true) (hfn : ∀ p ∈ C.fn, ai (C.env vs) p.1 p.2) (hy : ∀ p ∈ C.yl, kF (C.env vs) p.1 p.2.1 p.2.2) (hname : iQ C = true) (hv : mM C = true ∨ vs C.self = C.nt :: C.vars) : ai (C.env vs) C.self (ax C) := by
  refine a4r (wu ok gl mo hfn hy) (fun fn hf => ?_) fun fn c n hf hc hlen z hz => ?_
  · unfold iQ at hname
    have e : jj C.P.funcs.toList C.self = some fn := by rw [c8, Array.getElem?_toList]; exact hf
    rw [e] at hname
    simpa using hname
  · rcases hv with h | h
    · unfold mM at h
      have e : jj C.P.funcs.toList C.self = some fn := by rw [c8, Array.getElem?_toList]; exact hf
      rw [e] at h
      simp only [hc] at h
      rw [gH h] at hz
      cases hz
    · exact aH.rangeFunc (wu ok gl mo hfn hy) hfn h hf hc ((a56 c).2 hlen z hz)
end
section
variable {V : Env}
theorem a8 : ∀ p ∈ ([] : List (Nat × ao)), ai V p.1 p.2 := fun _ h => (by cases h)
theorem a7 {f : Nat} {G : ao} {l : List (Nat × ao)} (h : ai V f G) (t : ∀ p ∈ l, ai V p.1 p.2) : ∀ p ∈ (f, G) :: l, ai V p.1 p.2 := fun p hp => by
  rcases List.mem_cons.1 hp with rfl | hp
  · exact h
  · exact t p hp
theorem mZ : ∀ p ∈ ([] : List (Nat × Nat × cq)), kF V p.1 p.2.1 p.2.2 := fun _ h => (by cases h)
noncomputable def isTrue : ab → Bool := fun r => ab.rec (motive := fun _ => Bool) (fun _ _ => false) (fun _ _ _ => false) (fun _ _ => false) (fun v _ => @AV.rec (fun _ => Bool) (fun _ => Unit) (fun _ _ => false) (fun b => b) (fun _ _ => false) (fun _ _ => false) (fun _ _ _ _ => false) (fun _ _ _ _ _ => false) (fun _ _ _ => false) (fun _ _ _ => false) (fun _ _ _ _ _ _ => false) () (fun _ _ _ _ _ _ => ()) v) false r
theorem uE {R : ab} (h : isTrue R = true) : ∃ hp, R = .val (.bool true) hp := by
  cases R with
  | val v hp =>
    cases v with
    | bool b => exact ⟨hp, by rw [show b = true from h]⟩
    | _ => exact Bool.noConfusion h
  | _ => exact Bool.noConfusion h
theorem wv (nx : Nat) (pr : List Nat) (rb b : Nat) : Hp.at ⟨.lf, nx, pr, rb⟩ b = .dead := lW _ _
theorem qK {μ : Mu} {F : Nat → Prop} {nx : Nat} {pr : List Nat} {rb : Nat} {w : World} (hd : ∀ b, μ b = none) (hi : ∀ B, F B → B < w.heap.size) (hg : V.pL w F) : au V μ F ⟨.lf, nx, pr, rb⟩ w :=
  ⟨fun b => by rw [wv]; exact trivial, fun b _ _ _ h => by rw [wv] at h; exact h.elim, fun b m hm => (by rw [hd] at hm; cases hm), hi, hg⟩
theorem vJ {f : FuncId} {G : ao} (hG : ai V f G) (h : isTrue (G.f .lf .empty) = true) (w : World) (hw : V.vs.G w) (hn : V.vs.nG ≤ w.heap.size) : Calls V.P f #[] w fun e w' => e = .returned (.bool true) ∧ bA w w' ∧ w.heap.size ≤ w'.heap.size ∧ ∀ B, B < w.heap.size → w'.heap[B]? = w.heap[B]? := by
  obtain ⟨hc, e⟩ := uE h
  obtain ⟨_, v, hc', e', H⟩ := hG .lf .empty _ e (by simp)
  cases e'
  have h0 := H w bz (fun B => B < V.vs.nG) #[] 0 (qK (fun _ => rfl) (fun _ h => Nat.lt_of_lt_of_le h hn) ⟨hw, fun _ h => h⟩) ⟨rfl, fun i u hu => by simp at hu⟩
  have h1 : CallsIn Fence.wide 0 V.P f #[] w fun e w' => ∃ x, e = .returned x ∧ ∃ μ' F', ae w' F' μ' (.bool true) x ∧ au V μ' F' hc w' ∧ bR bz (fun B => B < V.vs.nG) .empty w μ' F' hc w' := h0
  exact (callsIn_wide.1 h1).mono fun e w' ⟨x, e1, μ', F', h2, _, h4⟩ => by
    subst e1
    cases h2
    exact ⟨rfl, h4.ext.io, h4.ext.size, fun B hB => h4.ext.keep B hB fun ho => gv ho.wb⟩
end
theorem gh : ∀ (l : List UInt8), eJ l.length (aI l) = bK l
  | [] => rfl
  | b :: l => by
    have hb : b.toNat < 256 := b.toNat_lt
    have e : aI (b :: l) = b.toNat + 256 * aI l := rfl
    show Nat.mod (aI (b :: l)) 256 :: eJ l.length (Nat.div (aI (b :: l)) 256) = _
    have e1 : Nat.mod (aI (b :: l)) 256 = b.toNat := by rw [e]; show (b.toNat + 256 * aI l) % 256 = _; omega
    have e2 : Nat.div (aI (b :: l)) 256 = aI l := by rw [e]; show (b.toNat + 256 * aI l) / 256 = _; omega
    rw [e1, e2, gh l]; rfl
theorem mV (a b : UInt8) : Nat.beq a.toNat b.toNat = (a == b) := by
  rw [Bool.eq_iff_iff, an, beq_iff_eq]
  exact ⟨fun h => UInt8.toNat_inj.1 h, fun h => by rw [h]⟩
theorem rD (c : UInt8) : ∀ (l : List UInt8) (i : Nat), idxA c.toNat (bK l) i = if Lib.indexByte l c < 0 then iR else i + (Lib.indexByte l c).toNat
  | [], i => rfl
  | b :: l, i => by
    have e : idxA c.toNat (bK (b :: l)) i = (Bool.rec (motive := fun _ => Nat) (idxA c.toNat (bK l) (Nat.succ i)) i (Nat.beq b.toNat c.toNat)) := rfl
    rw [e, aZ, mV, rD c l]
    have hg : ∀ l : List UInt8, -1 ≤ Lib.indexByte l c := fun l => by
      induction l with
      | nil => simp [Lib.indexByte]
      | cons b l ih => simp only [Lib.indexByte]; split; · omega
                       · split <;> omega
    have := hg l
    simp only [Lib.indexByte]
    by_cases h : (b == c) = true
    · simp [h]
    · simp only [h, if_false, Bool.false_eq_true]
      by_cases h2 : Lib.indexByte l c = -1
      · simp [h2]
      · have : (Lib.indexByte l c == -1) = false := by simpa using h2
        simp only [this, Bool.false_eq_true, if_false]
        have hn : ¬ Lib.indexByte l c < 0 := by omega
        have hn2 : ¬ Lib.indexByte l c + 1 < 0 := by omega
        rw [if_neg hn, if_neg hn2]
        show Nat.succ i + _ = _
        omega
theorem qJ (c : UInt8) : ∀ (l : List UInt8), yt c.toNat (bK l) = Lib.countByte l c
  | [] => rfl
  | b :: l => by
    have e : yt c.toNat (bK (b :: l)) = (Bool.rec (motive := fun _ => Nat) (yt c.toNat (bK l)) (Nat.succ (yt c.toNat (bK l))) (Nat.beq b.toNat c.toNat)) := rfl
    rw [e, aZ, mV, qJ c l]
    simp only [Lib.countByte, List.count_cons]
    by_cases h : (b == c) = true <;> simp [h]
theorem mF : ∀ (m l : List UInt8), vt (bK m) (bK l) = m.isPrefixOf l
  | [], l => rfl
  | a :: m, [] => rfl
  | a :: m, b :: l => by
    have e : vt (bK (a :: m)) (bK (b :: l)) = (Bool.rec (motive := fun _ => Bool) false (vt (bK m) (bK l)) (Nat.beq a.toNat b.toNat)) := rfl
    rw [e, aZ, mV, mF m l]
    simp only [List.isPrefixOf]
    by_cases h : (a == b) = true <;> simp [h]
theorem sX (m : List UInt8) : ∀ (l : List UInt8) (i : Nat), a3i (bK m) (bK l) i = if Lib.index l m < 0 then iR else i + (Lib.index l m).toNat
  | [], i => by
    have e : a3i (bK m) (bK []) i = (Bool.rec (motive := fun _ => Nat) iR i (vt (bK m) (bK []))) := rfl
    rw [e, aZ, mF]
    cases m <;> simp [Lib.index, List.isPrefixOf]
  | b :: l, i => by
    have e : a3i (bK m) (bK (b :: l)) i = (Bool.rec (motive := fun _ => Nat) (a3i (bK m) (bK l) (Nat.succ i)) i (vt (bK m) (bK (b :: l)))) := rfl
    rw [e, aZ, mF, sX m l]
    have := Lib.index_ge l m
    simp only [Lib.index]
    by_cases h : (m.isPrefixOf (b :: l)) = true
    · simp [h]
    · simp only [h, if_false, Bool.false_eq_true]
      by_cases h2 : Lib.index l m = -1
      · simp [h2]
      · have : (Lib.index l m == -1) = false := by simpa using h2
        simp only [this, Bool.false_eq_true, if_false]
        have hn : ¬ Lib.index l m < 0 := by omega
        have hn2 : ¬ Lib.index l m + 1 < 0 := by omega
        rw [if_neg hn, if_neg hn2]
        show Nat.succ i + _ = _
        omega
section
variable {V : Env} {f : FuncId}
theorem b9 {R : ab} (hR : R ≠ .fail) {l : Row} {k : AV → Row → ab} (h : fT l k = R) : ∃ v a r, l = .nd v a r ∧ k v r = R := by
  cases l with
  | lf => exact aa hR h
  | nd v a r => exact ⟨v, a, r, rfl, h⟩
theorem dP {R : ab} (hR : R ≠ .fail) {l : Row} {k : ab} (h : qB l k = R) : l = .lf ∧ k = R := by
  cases l with
  | lf => exact ⟨rfl, h⟩
  | nd v a r => exact aa hR h
theorem args1 {w : World} {F : Nat → Prop} {μ : Mu} {v : AV} {a : Row} {args : Array Value} (h : eI w F μ (.nd v a .lf) args) : ∃ x, args = #[x] ∧ ae w F μ v x := by
  obtain ⟨h1, h2⟩ := h
  obtain ⟨l⟩ := args
  cases l with
  | nil => cases h1
  | cons x r =>
    cases r with
    | nil => exact ⟨x, rfl, h2 0 x rfl⟩
    | cons y r => exact absurd h1 (by simp [len])
theorem nA {w : World} {F : Nat → Prop} {μ : Mu} {v u : AV} {a b : Row} {args : Array Value} (h : eI w F μ (.nd v a (.nd u b .lf)) args) : ∃ x y, args = #[x, y] ∧ ae w F μ v x ∧ ae w F μ u y := by
  obtain ⟨h1, h2⟩ := h
  obtain ⟨l⟩ := args
  cases l with
  | nil => cases h1
  | cons x r =>
    cases r with
    | nil => cases h1
    | cons y r =>
      cases r with
      | nil => exact ⟨x, y, rfl, h2 0 x rfl, h2 1 y rfl⟩
      | cons z r => exact absurd h1 (by simp [len])
theorem bR.grow {μ : Mu} {F : Nat → Prop} {hp : Hp} {w w' : World} (g : RowKit.Below w.heap.size w w') : bR μ F hp w μ F hp w' :=
  .of ⟨fun _ _ h => h, fun _ h => h, g.size, fun B hB _ => g.block B hB, fun _ h => .inr h, fun _ h => .inr h, fun _ h => .inl h, fun _ _ h => .inl h, Nat.le_refl _, rfl, rfl, ⟨by rw [g.os, g.tape], g.output⟩⟩ fun _ h => .inl h
theorem ai.known {G : ao} (hcan : Can V.P f) (h : ∀ l hp R, G.f l hp = R → R ≠ .fail → ∃ v, R = .val v hp ∧ ∀ w F μ args, V.pL w F → eI w F μ l args → Calls V.P f args w fun e w' => ∃ x, e = .returned x ∧ RowKit.Below w.heap.size w w' ∧ ae w' F μ v x) : ai V f G := fun l hp R h1 hR => by
  obtain ⟨v, e, H⟩ := h l hp R h1 hR
  refine ⟨hcan, v, hp, e, fun w μ F args n hH ha => callsIn_wide.2 ((H w F μ args hH.jk ha).mono fun e w' ⟨x, e1, g, hx⟩ => ⟨x, e1, μ, F, hx, ?_, .grow g⟩)⟩
  exact hH.grow g.size g.block (fun _ h => h) (fun _ h => .inl h) fun B hB => Nat.lt_of_lt_of_le (hH.fN B hB) g.size
theorem cV {w : World} {F : Nat → Prop} {μ : Mu} {s n : Nat} {x : Value} (h : ae w F μ (.str s n) x) : ∃ b : ByteArray, x = .string b ∧ n = b.size ∧ s = aI b.data.toList := by
  cases h; exact ⟨_, rfl, rfl, rfl⟩
theorem dQ (b : ByteArray) : eJ b.size (aI b.data.toList) = bK b.data.toList := by
  have e : b.size = b.data.toList.length := rfl
  rw [e, gh]
theorem jm {i n : Nat} {k : AV → ab} : bX i n k = k (.int i n) := by cases n <;> rfl
theorem mJ {w : World} {F : Nat → Prop} {μ : Mu} {i : Int} (h1 : -1 ≤ i) (h2 : i < 9223372036854775808) : ae w F μ (.int 3 (if i < 0 then iR else 0 + i.toNat)) (.int .i64 i) := by
  by_cases h : i < 0
  · have : i = -1 := by omega
    subst this
    exact .int (k := 3) (n := iR) (by decide)
  · rw [if_neg h]
    have hn : i = (i.toNat : Int) := by omega
    have := ae.int (w := w) (F := F) (μ := μ) (k := 3) (n := 0 + i.toNat) (by show 0 + i.toNat < 18446744073709551616; omega)
    have e : (kd 3).wrap ((0 + i.toNat : Nat) : Int) = i := by
      show IntKind.i64.wrap _ = i
      rw [Nat.zero_add, wrap_i64 _ (by omega), ← hn]
    rw [e] at this
    exact this
theorem jl (c : UInt8) : ∀ l : List UInt8, -1 ≤ Lib.indexByte l c ∧ Lib.indexByte l c ≤ l.length
  | [] => by simp [Lib.indexByte]
  | b :: l => by
    have := jl c l
    simp only [Lib.indexByte, List.length_cons]
    split
    · omega
    · split <;> omega
theorem rF (m : List UInt8) : ∀ l : List UInt8, -1 ≤ Lib.index l m ∧ Lib.index l m ≤ l.length
  | [] => by simp only [Lib.index]; split <;> simp
  | b :: l => by
    have := rF m l
    simp only [Lib.index, List.length_cons]
    split
    · omega
    · split <;> omega
theorem size_eq (b : ByteArray) : b.data.toList.length = b.size := rfl
theorem a5o {c : Nat} (h : c < 256) : ((c : Int).toNat.toUInt8).toNat = c := by
  show (UInt8.ofNat c).toNat = c
  rw [UInt8.toNat_ofNat']; omega
theorem a4w (hcan : Can V.P f) (H : ∀ (s : ByteArray) (c : Int) (w : World), Calls V.P f #[.string s, .int .u8 c] w fun e w' => e = .returned (.int .i64 (Lib.indexByte s.data.toList c.toNat.toUInt8)) ∧ w' = w) : ai V f idxF := by
  refine ai.known hcan fun l hp R h hR => ?_
  obtain ⟨a, _, r, rfl, h1⟩ := b9 hR h
  obtain ⟨b, _, r, rfl, h2⟩ := b9 hR h1
  obtain ⟨rfl, h3⟩ := dP hR h2
  obtain ⟨s, n, rfl, h4⟩ := aM hR h3
  obtain ⟨i, c, rfl, h5⟩ := aR hR h4
  obtain ⟨hi, h6⟩ := ah hR h5
  obtain ⟨hn, h7⟩ := ah hR h6
  rw [an] at hi
  rw [aK] at hn
  subst hi
  rw [jm] at h7
  refine ⟨_, h7.symm, fun w F μ args _ ha => ?_⟩
  obtain ⟨x, y, rfl, hx, hy⟩ := nA ha
  obtain ⟨b, rfl, rfl, rfl⟩ := cV hx
  obtain ⟨hc, rfl⟩ := aY hy
  have hw : T 4 c = c := cX 4 c hc (.inl (by decide))
  rw [hw]
  refine (H b c w).mono fun e w' ⟨e1, e2⟩ => ⟨_, e1, by rw [e2]; exact .refl _ _, ?_⟩
  have := rD ((c : Int).toNat.toUInt8) b.data.toList 0
  rw [a5o hc] at this
  rw [dQ, this]
  obtain ⟨h1, h2⟩ := jl ((c : Int).toNat.toUInt8) b.data.toList
  rw [size_eq] at h2
  exact mJ h1 (by omega)
theorem a3S (hcan : Can V.P f) (H : ∀ (s : ByteArray) (c : UInt8) (w : World), Calls V.P f #[.string s, .string ⟨#[c]⟩] w fun e w' => e = .returned (.int .i64 (Lib.countByte s.data.toList c)) ∧ w' = w) : ai V f cntF := by
  refine ai.known hcan fun l hp R h hR => ?_
  obtain ⟨a, _, r, rfl, h1⟩ := b9 hR h
  obtain ⟨b, _, r, rfl, h2⟩ := b9 hR h1
  obtain ⟨rfl, h3⟩ := dP hR h2
  obtain ⟨s, n, rfl, h4⟩ := aM hR h3
  obtain ⟨t, m, rfl, h5⟩ := aM hR h4
  obtain ⟨hm, h6⟩ := ah hR h5
  obtain ⟨hn, h7⟩ := ah hR h6
  rw [an] at hm
  rw [aK] at hn
  rw [jm] at h7
  refine ⟨_, h7.symm, fun w F μ args _ ha => ?_⟩
  obtain ⟨x, y, rfl, hx, hy⟩ := nA ha
  obtain ⟨b, rfl, rfl, rfl⟩ := cV hx
  obtain ⟨b2, rfl, hsz, rfl⟩ := cV hy
  obtain ⟨d⟩ := b2
  obtain ⟨l2⟩ := d
  have hl : l2.length = 1 := by rw [hm] at hsz; exact hsz.symm
  obtain ⟨c, rfl⟩ := List.length_eq_one_iff.1 hl
  have e0 : aI [c] = c.toNat := by show c.toNat + 256 * 0 = _; omega
  refine (H b c w).mono fun e w' ⟨e1, e2⟩ => ⟨_, e1, by rw [e2]; exact .refl _ _, ?_⟩
  show ae w' F μ (.int 3 (yt (aI [c]) _)) _
  rw [dQ, e0, qJ c]
  have h2 : Lib.countByte b.data.toList c ≤ b.size := by rw [← size_eq]; exact List.count_le_length
  have := mJ (w := w') (F := F) (μ := μ) (i := (Lib.countByte b.data.toList c : Nat)) (by omega) (by omega)
  rw [if_neg (by omega)] at this
  simpa using this
theorem a3T {G : ao} (hG : ai V f G) (H : ∀ (s : ByteArray) (c : UInt8) (w : World), Calls V.P f #[.string s, .string ⟨#[c]⟩] w fun e w' => e = .returned (.int .i64 (Lib.countByte s.data.toList c)) ∧ w' = w) (hcan : Can V.P f) : ai V f (cntG G) := by
  intro l hp R h hR
  obtain ⟨a, _, r, rfl, h1⟩ := b9 hR h
  obtain ⟨b, _, r, rfl, h2⟩ := b9 hR h1
  obtain ⟨t, m, rfl, h3⟩ := aM hR h2
  rw [y9] at h3
  split at h3
  · exact a3S hcan H _ _ _ h3 hR
  · exact hG _ _ _ h3 hR
theorem a5m (hcan : Can V.P f) (H : ∀ (s m : ByteArray) (w : World) (F : Nat → Prop), V.pL w F → s.size < 4294967281 → Calls V.P f #[.string s, .string m] w fun e w' => e = .returned (.int .i64 (Lib.index s.data.toList m.data.toList)) ∧ w' = w) : ai V f subF := by
  refine ai.known hcan fun l hp R h hR => ?_
  obtain ⟨a, _, r, rfl, h1⟩ := b9 hR h
  obtain ⟨b, _, r, rfl, h2⟩ := b9 hR h1
  obtain ⟨rfl, h3⟩ := dP hR h2
  obtain ⟨s, n, rfl, h4⟩ := aM hR h3
  obtain ⟨t, m, rfl, h5⟩ := aM hR h4
  obtain ⟨hn, h6⟩ := ah hR h5
  rw [aK] at hn
  rw [jm] at h6
  refine ⟨_, h6.symm, fun w F μ args hG ha => ?_⟩
  obtain ⟨x, y, rfl, hx, hy⟩ := nA ha
  obtain ⟨b, rfl, rfl, rfl⟩ := cV hx
  obtain ⟨b2, rfl, rfl, rfl⟩ := cV hy
  refine (H b b2 w F hG (by omega)).mono fun e w' ⟨e1, e2⟩ => ⟨_, e1, by rw [e2]; exact .refl _ _, ?_⟩
  rw [dQ, dQ, sX]
  obtain ⟨h1, h2⟩ := rF b2.data.toList b.data.toList
  rw [size_eq] at h2
  exact mJ h1 (by omega)
theorem qL : ∀ (l : List UInt8) (acc : Nat), a0c (bK l) acc = Lib.decFrom acc l
  | [], acc => rfl
  | b :: l, acc => by
    have e : a0c (bK (b :: l)) acc = (Bool.rec (motive := fun _ => Option Nat) none (Bool.rec (motive := fun _ => Option Nat) none (a0c (bK l) (Nat.add (Nat.mul acc 10) (Nat.sub b.toNat 48))) (Nat.ble b.toNat 57)) (Nat.ble 48 b.toNat)) := rfl
    rw [e, aZ, aZ, qL l]
    simp only [Lib.decFrom, Lib.digitVal, aK]
    show (if 48 ≤ b.toNat then if b.toNat ≤ 57 then Lib.decFrom (acc * 10 + (b.toNat - 48)) l else none else none) = _
    by_cases h1 : 48 ≤ b.toNat
    · by_cases h2 : b.toNat ≤ 57
      · simp [h1, h2]
      · simp [h1, h2]
    · simp [h1]
theorem qN (l : List UInt8) : qM (bK l) = Lib.decNat l := by
  cases l with
  | nil => rfl
  | cons b l =>
    have e : qM (bK (b :: l)) = a0c (bK (b :: l)) 0 := rfl
    rw [e, qL]; rfl
def ix (i : Int) : Nat := (i % 18446744073709551616).toNat
theorem decFrom_lt : ∀ (l : List UInt8) (acc n : Nat), Lib.decFrom acc l = some n → n < (acc + 1) * 10 ^ l.length
  | [], acc, n, h => by simp only [Lib.decFrom, Option.some.injEq] at h; simp; omega
  | b :: l, acc, n, h => by
    simp only [Lib.decFrom, Lib.digitVal] at h
    split at h
    · rename_i d hd
      split at hd
      · have hd' : d = b.toNat - 48 := by simpa using hd.symm
        have := decFrom_lt l _ n h
        have h2 : acc * 10 + d + 1 ≤ (acc + 1) * 10 := by omega
        have h3 := Nat.mul_le_mul_right (10 ^ l.length) h2
        rw [List.length_cons, Nat.pow_succ]
        calc n < (acc * 10 + d + 1) * 10 ^ l.length := this
          _ ≤ (acc + 1) * 10 * 10 ^ l.length := h3
          _ = (acc + 1) * (10 ^ l.length * 10) := by rw [Nat.mul_assoc, Nat.mul_comm 10]
      · cases hd
    · cases h
theorem nL {l : List UInt8} {n : Nat} (hl : l.length ≤ 18) (h : Lib.decNat l = some n) : n < 9223372036854775808 := by
  unfold Lib.decNat at h
  split at h
  · cases h
  · have := decFrom_lt l 0 n h
    have h2 : 10 ^ l.length ≤ 10 ^ 18 := Nat.pow_le_pow_right (by omega) hl
    have h3 : (10 : Nat) ^ 18 < 9223372036854775808 := by decide
    omega
theorem zS (l : List UInt8) (hl : l.length ≤ 18) : atoA (bK l) = (Lib.atoi l).map ix ∧ ∀ i, Lib.atoi l = some i → -9223372036854775808 < i ∧ i < 9223372036854775808 := by
  cases l with
  | nil => exact ⟨rfl, fun i h => by cases h⟩
  | cons b r =>
    have e : atoA (bK (b :: r)) = (Bool.rec (motive := fun _ => Option Nat) (Bool.rec (motive := fun _ => Option Nat) (qM (bK (b :: r))) (qM (bK r)) (Nat.beq b.toNat 43)) (Option.rec (motive := fun _ => Option Nat) none (fun m => some (Nat.mod (Nat.sub yj m) yj)) (qM (bK r))) (Nat.beq b.toNat 45)) := rfl
    have h45 : Nat.beq b.toNat 45 = (b == 45) := mV b 45
    have h43 : Nat.beq b.toNat 43 = (b == 43) := mV b 43
    have hr : r.length ≤ 18 := by simp at hl; omega
    rw [e, aZ, aZ, qN, qN, h45, h43]
    simp only [Lib.atoi]
    have pos : ∀ {l : List UInt8}, l.length ≤ 18 → Lib.decNat l = ((Lib.decNat l).map fun (m : Nat) => (m : Int)).map ix ∧ ∀ i, (Lib.decNat l).map (fun (m : Nat) => (m : Int)) = some i → -9223372036854775808 < i ∧ i < 9223372036854775808 := fun {l} hl => by
      cases h : Lib.decNat l with
      | none => exact ⟨rfl, fun i hi => by cases hi⟩
      | some n =>
        have := nL hl h
        refine ⟨?_, fun i hi => ?_⟩
        · simp only [Option.map_some, ix]; congr 1; omega
        · simp only [Option.map_some, Option.some.injEq] at hi; omega
    by_cases h1 : (b == 45) = true
    · simp only [h1, if_true]
      cases h : Lib.decNat r with
      | none => exact ⟨rfl, fun i hi => by cases hi⟩
      | some n =>
        have := nL hr h
        refine ⟨?_, fun i hi => ?_⟩
        · simp only [Option.map_some, ix]
          show some ((18446744073709551616 - n) % 18446744073709551616) = _
          congr 1; omega
        · simp only [Option.map_some, Option.some.injEq] at hi; omega
    · simp only [h1, Bool.false_eq_true, if_false]
      by_cases h2 : (b == 43) = true
      · simp only [h2, if_true]; exact pos hr
      · simp only [h2, Bool.false_eq_true, if_false]; exact pos hl
theorem zq {w : World} {F : Nat → Prop} {μ : Mu} {i : Int} (h1 : -9223372036854775808 < i) (h2 : i < 9223372036854775808) : ae w F μ (.int 3 (ix i)) (.int .i64 i) := by
  have := ae.int (w := w) (F := F) (μ := μ) (k := 3) (n := ix i) (by show ix i < 18446744073709551616; unfold ix; omega)
  have e : (kd 3).wrap ((ix i : Nat) : Int) = i := by
    show IntKind.i64.wrap _ = i
    rw [IntKind.wrap_i64]; unfold ix; omega
  rw [e] at this
  exact this
theorem jz {w : World} {F : Nat → Prop} {μ : Mu} {a b : AV} {x y : Value} (ha : ae w F μ a x) (hb : ae w F μ b y) : ae w F μ (.bM (.nd a .lf (.nd b .lf .lf)) 2) (.tuple #[x, y]) :=
  .bM (fun i => if i = 0 then x else y) rfl (fun i hi => by
    have : i < 2 := hi
    rcases (by omega : i = 0 ∨ i = 1) with rfl | rfl <;> rfl) fun i hi => by
    have : i < 2 := hi
    rcases (by omega : i = 0 ∨ i = 1) with rfl | rfl
    · exact ha
    · exact hb
theorem a3J {T : Nat} (hcan : Can V.P f) (Hy : ∀ (s : ByteArray) (n : Int) (w : World), s.size ≤ 18 → Lib.atoi s.data.toList = some n → Calls V.P f #[.string s] w fun e w' => e = .returned (.tuple #[.int .i64 n, .nilIface]) ∧ RowKit.Below w.heap.size w w')
    (Hn : ∀ (s : ByteArray) (w : World) (F : Nat → Prop), V.pL w F → s.size ≤ 18 → Lib.atoi s.data.toList = none → Calls V.P f #[.string s] w fun e w' => (∃ v, e = .returned (.tuple #[.int .i64 0, .iface T v])) ∧ RowKit.Below w.heap.size w w') : ai V f (atoF T) := by
  refine ai.known hcan fun l hp R h hR => ?_
  obtain ⟨a, _, r, rfl, h1⟩ := b9 hR h
  obtain ⟨rfl, h2⟩ := dP hR h1
  obtain ⟨s, n, rfl, h3⟩ := aM hR h2
  obtain ⟨hn, h4⟩ := ah hR h3
  rw [aK] at hn
  have key : ∀ (o : Option Nat), (Option.rec (motive := fun _ => ab) (.val (.bM (.nd (.int 3 0) .lf (.nd (.x 12 .lf T 0 0) .lf .lf)) 2) hp) (fun m => bX 3 m fun v => .val (.bM (.nd v .lf (.nd (.x 11 .lf 0 0 0) .lf .lf)) 2) hp) o : ab) = .val (match o with | none => .bM (.nd (.int 3 0) .lf (.nd (.x 12 .lf T 0 0) .lf .lf)) 2 | some m => .bM (.nd (.int 3 m) .lf (.nd (.x 11 .lf 0 0 0) .lf .lf)) 2) hp := fun o => by
    cases o with
    | none => rfl
    | some m => exact jm
  rw [key] at h4
  refine ⟨_, h4.symm, fun w F μ args hG ha => ?_⟩
  obtain ⟨x, rfl, hx⟩ := args1 ha
  obtain ⟨b, rfl, rfl, rfl⟩ := cV hx
  rw [dQ]
  obtain ⟨q1, q2⟩ := zS b.data.toList hn
  rw [q1]
  cases ho : Lib.atoi b.data.toList with
  | none => exact (Hn b w F hG hn ho).mono fun e w' ⟨⟨v, e1⟩, e2⟩ => ⟨_, e1, e2, jz (.int (k := 3) (n := 0) (by decide)) (.iface (.uu _))⟩
  | some i =>
    obtain ⟨p1, p2⟩ := q2 i ho
    exact (Hy b i w hn ho).mono fun e w' ⟨e1, e2⟩ => ⟨_, e1, e2, jz (zq p1 p2) .la⟩
end
theorem vE {c : Code} {q : Dfd} (h : mQ c = some q) : c = .seq (.region q.ia q.a false) (.seq (.region q.id #[q.o0, q.o1] false) q.rest) ∧ q.o0.op = .makeFunc (.func q.g) q.fs q.l7 ∧ q.o0.dst = some q.t ∧ q.o0.guard = none ∧ q.o1.op = .defer ⟨.value (.tmp q.t'), q.aas, q.ts⟩ ∧ q.o1.dst = none ∧ q.o1.guard = none := by
  unfold mQ at h
  split at h
  · rename_i ia a id ops rest
    obtain ⟨p, h1, h2⟩ := Option.bind_eq_some_iff.1 h
    obtain ⟨z, h3, h4⟩ := Option.map_eq_some_iff.1 h2
    subst h4
    have hops : ops = #[p.1, p.2] := by
      unfold a7U at h1
      split at h1
      · rename_i x y e
        cases h1
        rw [← Array.toList_inj, e]
      · cases h1
    unfold opsD at h3
    split at h3
    · cases h3
      rename_i e1 e2 e3 e4 e5 e6
      exact ⟨by rw [hops], e1, e2, e3, e4, e5, e6⟩
    · cases h3
  · cases h
theorem vp {C : Cx} {g : G} {t : Nat} (h : vo C g t = true) : look C g t = .no ∧ t < C.nt := by
  unfold vo at h
  split at h
  · rename_i e; rw [aK] at h; exact ⟨e, h⟩
  · cases h
noncomputable section
def AV.cs {ρ : Type} (y : AV) (i : Nat → Nat → ρ) (b : Bool → ρ) (s p : Nat → Nat → ρ) (m v : Nat → Nat → Nat → Nat → ρ) (vr : Row → ρ → ρ) (a t : Row → Nat → ρ) (x : Nat → Row → Nat → Nat → Nat → ρ) : ρ :=
  @AV.rec (fun _ => ρ) (fun _ => Unit) i b s p m (fun t o n z _ => vr t (v o n z 0)) (fun u n _ => a u n) (fun u n _ => t u n) (fun g u a b c _ => x g u a b c) () (fun _ _ _ _ _ _ => ()) y
def dK : Nat → Nat → Bool := fun _ _ => false
def iy : Nat → Nat → Nat → Nat → Bool := fun _ _ _ _ => false
def tL : Bool → Bool := fun _ => false
def tM : Row → Bool → Bool := fun _ _ => false
def iz : Row → Nat → Bool := fun _ _ => false
def tN : Nat → Row → Nat → Nat → Nat → Bool := fun _ _ _ _ _ => false
def beqB (a b : Bool) : Bool := Bool.rec (motive := fun _ => Bool) (bZ b) b a
def lQ : Row → Row → Bool := fun t => @AV.rec_1 (fun _ => AV → Bool) (fun _ => Row → Bool)
  (fun k n y => y.cs (fun k' n' => az (Nat.beq n n') (Nat.beq k k')) tL dK dK iy iy tM iz iz tN)
  (fun b y => y.cs dK (fun c => beqB b c) dK dK iy iy tM iz iz tN)
  (fun s n y => y.cs dK tL (fun s' n' => az (Nat.beq s s') (Nat.beq n n')) dK iy iy tM iz iz tN)
  (fun s n y => y.cs dK tL dK (fun s' n' => az (Nat.beq s s') (Nat.beq n n')) iy iy tM iz iz tN)
  (fun b o n z y => y.cs dK tL dK dK (fun b' o' n' z' => az (Nat.beq b b') (az (Nat.beq o o') (az (Nat.beq n n') (Nat.beq z z')))) iy tM iz iz tN)
  (fun _ o n z ih y => y.cs dK tL dK dK iy (fun o' n' z' _ => az (Nat.beq o o') (az (Nat.beq n n') (Nat.beq z z'))) (fun t' b => az b (ih t')) iz iz tN)
  (fun _ n ih y => y.cs dK tL dK dK iy iy tM (fun t' n' => az (Nat.beq n n') (ih t')) iz tN)
  (fun _ n ih y => y.cs dK tL dK dK iy iy tM iz (fun t' n' => az (Nat.beq n n') (ih t')) tN)
  (fun g _ a b c ih y => y.cs dK tL dK dK iy iy tM iz iz (fun g' t' a' b' c' => az (az (Nat.beq g g') (az (Nat.beq a a') (az (Nat.beq b b') (Nat.beq c c')))) (ih t')))
  (fun y => Tr.rec (motive := fun _ => Bool) true (fun _ _ _ _ _ => false) y)
  (fun _ _ _ iv il ir y => Tr.rec (motive := fun _ => Bool) false (fun v l r _ _ => az (ir r) (az (il l) (iv v))) y) t
def jg (h : Hp) : Bool := Hp.rec (motive := fun _ => Bool) (fun t nx pr rb => Tr.rec (motive := fun _ => Bool) (az (Nat.beq nx 0) (az (Nat.beq rb 0) (List.rec (motive := fun _ => Bool) true (fun _ _ _ => false) pr))) (fun _ _ _ _ _ => false) t) h
def aL (a : Row) (v : AV) (h : Hp) (F : ao) : ao := ⟨fun l hp => when (az (jg hp) (lQ l a)) (.val v h) (F.f l hp)⟩
end
theorem kI {h : Hp} (e : jg h = true) : h = .empty := by
  obtain ⟨t, nx, pr, rb⟩ := h
  cases t with
  | nd a b c => exact Bool.noConfusion e
  | lf =>
    have e' : az (Nat.beq nx 0) (az (Nat.beq rb 0) (List.rec (motive := fun _ => Bool) true (fun _ _ _ => false) pr)) = true := e
    rw [aB, aB, an, an] at e'
    obtain ⟨rfl, rfl, e3⟩ := e'
    cases pr with
    | nil => rfl
    | cons a l => exact Bool.noConfusion e3
noncomputable def eqAa : AV → AV → Bool := fun t => @AV.rec (fun _ => AV → Bool) (fun _ => Row → Bool)
  (fun k n y => y.cs (fun k' n' => az (Nat.beq n n') (Nat.beq k k')) tL dK dK iy iy tM iz iz tN)
  (fun b y => y.cs dK (fun c => beqB b c) dK dK iy iy tM iz iz tN)
  (fun s n y => y.cs dK tL (fun s' n' => az (Nat.beq s s') (Nat.beq n n')) dK iy iy tM iz iz tN)
  (fun s n y => y.cs dK tL dK (fun s' n' => az (Nat.beq s s') (Nat.beq n n')) iy iy tM iz iz tN)
  (fun b o n z y => y.cs dK tL dK dK (fun b' o' n' z' => az (Nat.beq b b') (az (Nat.beq o o') (az (Nat.beq n n') (Nat.beq z z')))) iy tM iz iz tN)
  (fun _ o n z ih y => y.cs dK tL dK dK iy (fun o' n' z' _ => az (Nat.beq o o') (az (Nat.beq n n') (Nat.beq z z'))) (fun t' b => az b (ih t')) iz iz tN)
  (fun _ n ih y => y.cs dK tL dK dK iy iy tM (fun t' n' => az (Nat.beq n n') (ih t')) iz tN)
  (fun _ n ih y => y.cs dK tL dK dK iy iy tM iz (fun t' n' => az (Nat.beq n n') (ih t')) tN)
  (fun g _ a b c ih y => y.cs dK tL dK dK iy iy tM iz iz (fun g' t' a' b' c' => az (az (Nat.beq g g') (az (Nat.beq a a') (az (Nat.beq b b') (Nat.beq c c')))) (ih t')))
  (fun y => Tr.rec (motive := fun _ => Bool) true (fun _ _ _ _ _ => false) y)
  (fun _ _ _ iv il ir y => Tr.rec (motive := fun _ => Bool) false (fun v l r _ _ => az (ir r) (az (il l) (iv v))) y) t
theorem qQ : ∀ (t u : Row), lQ t u = true → t = u := by
  refine @AV.rec_1 (fun a => ∀ b, eqAa a b = true → a = b) (fun t => ∀ u, lQ t u = true → t = u) ?_ ?_ ?_ ?_ ?_ ?_ ?_ ?_ ?_ ?_ ?_
  · intro k n y h
    cases y with
    | int k' n' =>
      have h' : az (Nat.beq n n') (Nat.beq k k') = true := h
      rw [aB, an, an] at h'
      rw [h'.1, h'.2]
    | _ => exact Bool.noConfusion h
  · intro b y h
    cases y with
    | bool c =>
      have h' : beqB b c = true := h
      revert h'; cases b <;> cases c <;> simp [beqB, bZ]
    | _ => exact Bool.noConfusion h
  · intro k n y h
    cases y with
    | str k' n' =>
      have h' : az (Nat.beq k k') (Nat.beq n n') = true := h
      rw [aB, an, an] at h'
      rw [h'.1, h'.2]
    | _ => exact Bool.noConfusion h
  · intro k n y h
    cases y with
    | ptr k' n' =>
      have h' : az (Nat.beq k k') (Nat.beq n n') = true := h
      rw [aB, an, an] at h'
      rw [h'.1, h'.2]
    | _ => exact Bool.noConfusion h
  · intro b o n z y h
    cases y with
    | ms b' o' n' z' =>
      have h' : az (Nat.beq b b') (az (Nat.beq o o') (az (Nat.beq n n') (Nat.beq z z'))) = true := h
      rw [aB, aB, aB, an, an, an, an] at h'
      rw [h'.1, h'.2.1, h'.2.2.1, h'.2.2.2]
    | _ => exact Bool.noConfusion h
  · intro t o n z ih y h
    cases y with
    | vs t' o' n' z' =>
      have h' : az (az (Nat.beq o o') (az (Nat.beq n n') (Nat.beq z z'))) (lQ t t') = true := h
      rw [aB, aB, aB, an, an, an] at h'
      rw [h'.1.1, h'.1.2.1, h'.1.2.2, ih _ h'.2]
    | _ => exact Bool.noConfusion h
  · intro t n ih y h
    cases y with
    | agg t' n' =>
      have h' : az (Nat.beq n n') (lQ t t') = true := h
      rw [aB, an] at h'
      rw [h'.1, ih _ h'.2]
    | _ => exact Bool.noConfusion h
  · intro t n ih y h
    cases y with
    | bM t' n' =>
      have h' : az (Nat.beq n n') (lQ t t') = true := h
      rw [aB, an] at h'
      rw [h'.1, ih _ h'.2]
    | _ => exact Bool.noConfusion h
  · intro g t a b c ih y h
    cases y with
    | x g' t' a' b' c' =>
      have h' : az (az (Nat.beq g g') (az (Nat.beq a a') (az (Nat.beq b b') (Nat.beq c c')))) (lQ t t') = true := h
      rw [aB, aB, aB, aB, an, an, an, an] at h'
      rw [h'.1.1, h'.1.2.1, h'.1.2.2.1, h'.1.2.2.2, ih _ h'.2]
    | _ => exact Bool.noConfusion h
  · intro u h
    cases u with
    | lf => rfl
    | nd a b c => exact Bool.noConfusion h
  · intro v l r iv il ir u h
    cases u with
    | lf => exact Bool.noConfusion h
    | nd v' l' r' =>
      have h' : az (lQ r r') (az (lQ l l') (eqAa v v')) = true := h
      rw [aB, aB] at h'
      rw [iv _ h'.2.2, il _ h'.2.1, ir _ h'.1]
noncomputable def fW (G : ao) : ao := ⟨fun l hp => aq (jg hp) (mG mem G l hp hp fun v h => .val v h)⟩
theorem aO {V : Env} {f : FuncId} {G : ao} (hG : ai V f G) : ai V f (fW G) := by
  intro l hp R h hR
  obtain ⟨he, h1⟩ := ah hR (show aq (jg hp) (mG mem G l hp hp fun v h => .val v h) = R from h)
  obtain rfl := kI he
  obtain ⟨hc, v, hp', e, D⟩ := ot (a0 := l) gF hR hG (fun w F μ H => ⟨F, H, Ext.refl _ _ _ _, fun i u hu => by
    have : μ = bz := funext fun b => by
      cases hx : μ b with
      | none => rfl
      | some m => exact absurd (H.et b m hx).1 (Nat.not_lt_zero _)
    subst this
    exact hu⟩) rfl h1
  exact ⟨hc, v, hp', e.symm, fun w μ F args n hH ha => (D w μ F args n hH ha).mono fun e w' ⟨x, e1, μ', F', h1, hid, h2, h3⟩ => ⟨x, e1, μ', F', h1, h2, .of h3 hid⟩⟩
theorem av {V : Env} {f : FuncId} {F F' : ao} {a : Row} {v : AV} {h : Hp} (hF : ai V f F) (hF' : ai V f F') (e : F'.f a .empty = .val v h) : ai V f (aL a v h F) := by
  intro l hp R hR hne
  rcases ar hne (show when (az (jg hp) (lQ l a)) (.val v h) (F.f l hp) = R from hR) with ⟨h1, h2⟩ | ⟨_, h2⟩
  · rw [aB] at h1
    obtain rfl := kI h1.1
    obtain rfl := qQ _ _ h1.2
    exact hF' l .empty R (e.trans h2) hne
  · exact hF l hp R h2 hne
end Go.Proofs.YtdlohaedegmiaaaGreatDoor.Ev
