import Derived.Test.YtdlohaedegmiaaaGreatDoorEvAL
import Derived.RangeFuncLeaves
namespace Go.Proofs.YtdlohaedegmiaaaGreatDoor.Ev
structure oD (C : Cx) (vs : Vs) : Prop where
  ok : aT C.M
  gl : ly C vs
  mo : C.P.follows .mixedOrders = true
  calls : fh C (C.env vs)
section
variable {C : Cx} {vs : Vs} (X : oD C vs) {r : Option Nat} {n : Nat}
theorem aH.skip : aH C vs r n .skip := fun _ h S hN _ _ _ => wpIn_skip (hN _ _ _ _ _ _ h S)
theorem aH.label {l : Nat} : aH C vs r n (.label l) := fun _ h S hN _ _ _ => wpIn_label (hN _ _ _ _ _ _ h S)
theorem aH.seq {x y : Code} (hx : aH C vs r n x) (hy : aH C vs r n y) : aH C vs r n (.seq x y) := fun hR h S hN hE hG hT => by
  refine wpIn_seq (hx hR (show ((den C x).run _ (fun g => (den C y).run g _ _ _) _ _).run _ _ _ = _ from h) S (fun g' sk' fr' hp' a' w' h1 S1 => ?_) hE hG hT)
  exact hy hR h1 S1 hN hE hG hT
include X
theorem aH.region {id : Nat} {ops : Array Oper} {d : Bool} : aH C vs r n (.region id ops d) := by
  intro s0 μ0 F0 h0 w0 g k ex rt sk fr hp R a w Q hR h ⟨μ, F, S, E⟩ hN hE hG hT
  have h1 : (Bool.rec (motive := fun _ => Sm) (gu C ops ops.toList g k) (oR C ops g k) d : Sm).run sk fr hp = R := h
  cases d with
  | false =>
    refine wpIn_region ?_
    rw [List.range_eq_range']
    have hsz : ops.size = ops.toList.length := by simp
    rw [hsz]
    exact jY X.ok hR X.calls X.gl ops.toList 0 (fun j o hj => by rw [Nat.zero_add, ← Array.getElem?_toList]; exact hj) h1 S fun g' sk' fr' hp' μ' F' a' w' q1 q2 q3 _ => hN _ _ _ _ _ _ q1 ⟨μ', F', q2, E.trans q3⟩
  | true => exact uu X.ok hR X.calls X.gl X.mo h1 S fun g' sk' fr' hp' μ' F' a' w' q1 q2 q3 => hN _ _ _ _ _ _ q1 ⟨μ', F', q2, E.trans q3⟩
theorem aH.cond {c : Operand} {x y : Code} (hx : aH C vs r n x) (hy : aH C vs r n y) : aH C vs r n (.cond c x y) := by
  intro s0 μ0 F0 h0 w0 g k ex rt sk fr hp R a w Q hR h S hN hE hG hT
  let j := dy (k .e)
  have h1 := aE hR (C := C) (g := g) (x := c) (sk := sk) (fr := fr) (k := fun v => v.dx fun t => when t (((den C x).run g (fun _ => j) ex rt).run sk fr hp) (((den C y).run g (fun _ => j) ex rt).run sk fr hp)) h
  obtain ⟨b, hb, h2⟩ := dZ hR h1
  obtain ⟨μ, F, St0, E⟩ := S
  have hc := kj X.gl (a := a) St0.h.jk c (fun t _ => St0.sl t)
  rw [hb] at hc
  have hN' : ∀ g' sk' fr' hp' a' w', (j).run sk' fr' hp' = R → At C vs s0 μ0 F0 h0 w0 g' sk' fr' hp' a' w' → Q .normal a' w' := fun g' sk' fr' hp' a' w' q1 q2 => hN .e .lf fr' hp' a' w' q1 q2.drop
  refine wpIn_cond (de hc) ?_
  rcases ar hR h2 with ⟨e, h3⟩ | ⟨e, h3⟩
  · rw [if_pos e]
    exact hx hR h3 ⟨μ, F, St0, E⟩ hN' hE hG hT
  · rw [if_neg (by rw [e]; decide)]
    exact hy hR h3 ⟨μ, F, St0, E⟩ hN' hE hG hT
omit X
theorem aH.block {id : Nat} {x : Code} (hx : aH C vs r n x) : aH C vs r n (.block id x) := by
  intro s0 μ0 F0 h0 w0 g k ex rt sk fr hp R a w Q hR h S hN hE hG hT
  let j := dy (k .e)
  have h1 : ((den C x).run g (fun _ => j) ((Nat.mul 2 id, j) :: ex) rt).run sk fr hp = R := h
  refine wpIn_block (hx hR h1 S (fun g' sk' fr' hp' a' w' q1 q2 => hN .e .lf fr' hp' a' w' q1 q2.drop) (fun id' fr' hp' a' w' q1 q2 => ?_) (fun l fr' hp' a' w' q1 q2 => ?_) hT)
  · rw [eS] at q1
    by_cases e : id' = id
    · subst e
      rw [if_pos (show Nat.mul 2 id' = 2 * id' from rfl)] at q1
      show Exit.inBlock id' Q (.exit id') a' w'
      simp only [Exit.inBlock, if_true]
      exact hN .e .lf fr' hp' a' w' q1 q2
    · rw [if_neg (fun q => e (by have q : 2 * id = 2 * id' := q; omega))] at q1
      show Exit.inBlock id Q (.exit id') a' w'
      simp only [Exit.inBlock, e, if_false]
      exact hE id' fr' hp' a' w' q1 q2
  · rw [eS, if_neg (fun q => by have q : 2 * id = 2 * l + 1 := q; omega)] at q1
    exact hG l fr' hp' a' w' q1 q2
theorem aH.exit {id : Nat} : aH C vs r n (.exit id) := fun _ h S _ hE _ _ => wpIn_exit (hE id _ _ _ _ h S.drop)
theorem aH.goto {l : Nat} : aH C vs r n (.goto l) := fun _ h S _ _ hG _ => wpIn_goto (hG l _ _ _ _ h S.drop)
theorem aH.ret : aH C vs r n .ret := fun _ h S _ _ _ hT => wpIn_ret (hT _ _ _ _ h S.drop)
theorem aH.refuse {s : String} : aH C vs r n (.refuse s) := fun hR h _ _ _ _ _ => aa hR h
theorem a3p {R : ab} (hR : R ≠ .fail) {s : Sm} {ih : Fr → Hp → ab} {fr : Fr} {hp : Hp} (h : tick s ih fr hp = R) : s.run .lf fr hp ≠ .fail ∧ ((∃ fr' hp', s.run .lf fr hp = .ok fr' hp' ∧ ih fr' hp' = R) ∨ (∃ m fr' hp', s.run .lf fr hp = .exit m fr' hp' ∧ R = .exit m fr' hp') ∨ ∃ fr' hp', s.run .lf fr hp = .ret fr' hp' ∧ R = .ret fr' hp') := by
  unfold tick at h
  cases hs : s.run .lf fr hp with
  | ok fr' hp' => rw [hs] at h; exact ⟨by simp, .inl ⟨_, _, rfl, h⟩⟩
  | exit m fr' hp' => rw [hs] at h; exact ⟨by simp, .inr (.inl ⟨_, _, _, rfl, h.symm⟩)⟩
  | ret fr' hp' => rw [hs] at h; exact ⟨by simp, .inr (.inr ⟨_, _, rfl, h.symm⟩)⟩
  | _ => rw [hs] at h; exact aa hR h
theorem aH.loop {x : Code} (hx : aH C vs r n x) : aH C vs r n (.loop x) := by
  intro s0 μ0 F0 h0 w0 g k ex rt sk fr hp R a w Q hR h S hN hE hG hT
  let s := (den C x).run .e (fun _ => jv) (dS ex) ku
  have h1 : k4 (ez s 1000000 fr hp) (fun _ _ => .fail) ex rt = R := h
  generalize hN0 : 1000000 = N at h1
  generalize hres : ez s N fr hp = R1 at h1
  have hR1 : R1 ≠ .fail := fun e => by rw [e] at h1; exact hR h1.symm
  refine mX (fun N a w => ∃ fr hp, ez s N fr hp = R1 ∧ At C vs s0 μ0 F0 h0 w0 .e .lf fr hp a w) (fun a w ⟨fr, hp, q, _⟩ => hR1 q.symm) (fun M a w ⟨fr, hp, q, S⟩ => ?_) (N := N) ⟨fr, hp, hres, S.drop⟩
  have q' : tick s (ez s M) fr hp = R1 := q
  obtain ⟨hb, hcases⟩ := a3p hR1 q'
  have body : ∀ {Rb : ab}, s.run .lf fr hp = Rb → Rb ≠ .fail → (∀ fr' hp', Rb = .ok fr' hp' → ez s M fr' hp' = R1) → (∀ m fr' hp', Rb = .exit m fr' hp' → R1 = .exit m fr' hp') → (∀ fr' hp', Rb = .ret fr' hp' → R1 = .ret fr' hp') → x.wpIn (Wf r) n C.P (Exit.then (fun a w => ∃ fr hp, ez s M fr hp = R1 ∧ At C vs s0 μ0 F0 h0 w0 .e .lf fr hp a w) Q) a w := by
    intro Rb hs hRb h1' h2' h3'
    have ends : ∀ m fr' hp' , (gy m (dS ex)).run .lf fr' hp' = Rb → (gy m ex).run .lf fr' hp' = R := fun m fr' hp' e => by
      have e2 := h2' m fr' hp' (eR hRb e)
      rw [e2] at h1
      rw [← ll]; exact h1
    refine hx hRb hs S (fun g' sk' fr' hp' a' w' e S1 => ?_) (fun id fr' hp' a' w' e S1 => hE id fr' hp' a' w' (ends _ _ _ e) S1) (fun l fr' hp' a' w' e S1 => hG l fr' hp' a' w' (ends _ _ _ e) S1) (fun fr' hp' a' w' e S1 => ?_)
    · exact ⟨fr', hp', h1' fr' hp' e.symm, S1.drop⟩
    · have e2 := h3' fr' hp' e.symm
      rw [e2] at h1
      exact hT fr' hp' a' w' h1 S1
  rcases hcases with ⟨fr', hp', e1, e2⟩ | ⟨m, fr', hp', e1, e2⟩ | ⟨fr', hp', e1, e2⟩
  · exact body e1 (by simp) (fun _ _ e => by cases e; exact e2) (fun _ _ _ e => by cases e) (fun _ _ e => by cases e)
  · exact body e1 (by simp) (fun _ _ e => by cases e) (fun _ _ _ e => by cases e; exact e2) (fun _ _ e => by cases e)
  · exact body e1 (by simp) (fun _ _ e => by cases e) (fun _ _ _ e => by cases e) (fun _ _ e => by cases e; exact e2)
theorem adJ (ls : List Nat) (segs : Lb) (ih : Sm → Fr → Hp → ab) (m : Nat) (fr : Fr) (hp : Hp) : (∃ l ∈ ls, m = 2 * l + 1 ∧ (List.rec (motive := fun _ => ab) (.exit m fr hp) (fun l _ r => Bool.rec (motive := fun _ => ab) r (ih (segs.f l) fr hp) (Nat.beq (Nat.succ (Nat.mul 2 l)) m)) ls : ab) = ih (segs.f l) fr hp) ∨
    ((∀ l ∈ ls, m ≠ 2 * l + 1) ∧ (List.rec (motive := fun _ => ab) (.exit m fr hp) (fun l _ r => Bool.rec (motive := fun _ => ab) r (ih (segs.f l) fr hp) (Nat.beq (Nat.succ (Nat.mul 2 l)) m)) ls : ab) = .exit m fr hp) := by
  induction ls with
  | nil => exact .inr ⟨fun _ h => (by cases h), rfl⟩
  | cons l ls ihl =>
    by_cases e : m = 2 * l + 1
    · refine .inl ⟨l, List.mem_cons_self .., e, ?_⟩
      show (Bool.rec (motive := fun _ => ab) _ (ih (segs.f l) fr hp) (Nat.beq (Nat.succ (Nat.mul 2 l)) m) : ab) = _
      rw [aZ, if_pos (by rw [an]; exact e.symm)]
    · have hb : ¬ Nat.beq (Nat.succ (Nat.mul 2 l)) m = true := by rw [an]; exact fun q => e q.symm
      rcases ihl with ⟨l', h1, h2, h3⟩ | ⟨h1, h2⟩
      · refine .inl ⟨l', List.mem_cons_of_mem _ h1, h2, ?_⟩
        show (Bool.rec (motive := fun _ => ab) _ (ih (segs.f l) fr hp) (Nat.beq (Nat.succ (Nat.mul 2 l)) m) : ab) = _
        rw [aZ, if_neg hb]; exact h3
      · refine .inr ⟨fun q hq => (List.mem_cons.1 hq).elim (fun h => h ▸ e) (h1 q), ?_⟩
        show (Bool.rec (motive := fun _ => ab) _ (ih (segs.f l) fr hp) (Nat.beq (Nat.succ (Nat.mul 2 l)) m) : ab) = _
        rw [aZ, if_neg hb]; exact h2
theorem aH.scope {x : Code} (hx : aH C vs r n x) (hl : ∀ l rest, findLabel x l = some rest → aH C vs r n rest) : aH C vs r n (.scope x) := by
  intro s0 μ0 F0 h0 w0 g k ex rt sk fr hp R a w Q hR h S hN hE hG hT
  let ex' := zR (den C x).ls (dS ex)
  let j := k .e
  let segs : Lb := ⟨fun l => Option.rec (motive := fun _ => Sm) aP (fun r => r .e (fun _ => jv) ex' ku) ((den C x).wN l)⟩
  let s := (den C x).run .e (fun _ => jv) ex' ku
  have h1 : k4 (dj (den C x).ls segs 1000000 s fr hp) (fun fr hp => j.run .lf fr hp) ex rt = R := h
  generalize hN0 : 1000000 = N at h1
  generalize hres : dj (den C x).ls segs N s fr hp = R1 at h1
  have hR1 : R1 ≠ .fail := fun e => by rw [e] at h1; exact hR h1.symm
  refine vK (fun N d a w => aH C vs r n d ∧ ∃ fr hp, dj (den C x).ls segs N ((den C d).run .e (fun _ => jv) ex' ku) fr hp = R1 ∧ At C vs s0 μ0 F0 h0 w0 .e .lf fr hp a w) (fun d a w ⟨_, fr, hp, q, _⟩ => hR1 q.symm) (fun M d a w ⟨hd, fr, hp, q, S⟩ => ?_) (N := N) ⟨hx, fr, hp, hres, S.drop⟩
  generalize hs : ((den C d).run .e (fun _ => jv) ex' ku).run .lf fr hp = Rb
  have q' : kz (den C x).ls segs (dj (den C x).ls segs M) ((den C d).run .e (fun _ => jv) ex' ku) fr hp = R1 := q
  unfold kz at q'
  rw [hs] at q'
  have hRb : Rb ≠ .fail := fun e => by rw [e] at q'; exact hR1 q'.symm
  have ends : ∀ m fr' hp', Rb = .exit m fr' hp' → (∃ l ∈ (den C x).ls, m = 2 * l + 1 ∧ dj (den C x).ls segs M (segs.f l) fr' hp' = R1) ∨ ((∀ l ∈ (den C x).ls, m ≠ 2 * l + 1) ∧ (gy m ex).run .lf fr' hp' = R) := fun m fr' hp' e => by
    rw [e] at q'
    rcases adJ (den C x).ls segs (dj (den C x).ls segs M) m fr' hp' with ⟨l, p1, p2, p3⟩ | ⟨p1, p2⟩
    · exact .inl ⟨l, p1, p2, p3.symm.trans q'⟩
    · refine .inr ⟨p1, ?_⟩
      have e3 : R1 = .exit m fr' hp' := q'.symm.trans p2
      rw [e3] at h1
      rw [← ll]; exact h1
  refine hd hRb hs S (fun g' sk' fr' hp' a' w' e S1 => ?_) (fun id fr' hp' a' w' e S1 => ?_) (fun l fr' hp' a' w' e S1 => ?_) (fun fr' hp' a' w' e S1 => ?_)
  · have e0 : Rb = .ok fr' hp' := e.symm
    rw [e0] at q'
    have q2 : R1 = .ok fr' hp' := q'.symm
    rw [q2] at h1
    exact hN .e .lf fr' hp' a' w' h1 S1.drop
  · rcases ends _ _ _ (lB hRb e) with ⟨l, _, p2, _⟩ | ⟨_, p2⟩
    · omega
    · exact hE id fr' hp' a' w' p2 S1
  · rcases ends _ _ _ (lB hRb e) with ⟨l', p1, p2, p3⟩ | ⟨p1, p2⟩
    · have : l' = l := by omega
      subst this
      cases hf : findLabel x l' with
      | some rest =>
        refine .inl ⟨rest, hf, hl l' rest hf, fr', hp', ?_, S1⟩
        have e4 : segs.f l' = (den C rest).run .e (fun _ => jv) ex' ku := by
          show (Option.rec (motive := fun _ => Sm) aP (fun r => r .e (fun _ => jv) ex' ku) ((den C x).wN l') : Sm) = _
          rw [jn, hf]; rfl
        rw [← e4]; exact p3
      | none =>
        exfalso
        have e4 : segs.f l' = aP := by
          show (Option.rec (motive := fun _ => Sm) aP (fun r => r .e (fun _ => jv) ex' ku) ((den C x).wN l') : Sm) = _
          rw [jn, hf]; rfl
        rw [e4] at p3
        cases M with
        | zero => exact hR1 p3.symm
        | succ M => exact hR1 p3.symm
    · exact .inr ⟨oV x l fun hm => p1 l hm rfl, hG l fr' hp' a' w' p2 S1⟩
  · have e0 : Rb = .ret fr' hp' := e.symm
    rw [e0] at q'
    have q2 : R1 = .ret fr' hp' := q'.symm
    rw [q2] at h1
    exact hT fr' hp' a' w' h1 S1
include X
omit X in
theorem j9 {α : Type} (a b : List α) : yh a b = a ++ b := by
  induction a with
  | nil => rfl
  | cons x r ih => exact congrArg (x :: ·) ih
theorem sO (c : Code) (hrf : ∀ x ∈ bn c, aH C vs r n (.rangeFunc x.1 x.2.1 x.2.2.1 x.2.2.2)) : aH C vs r n c ∧ ∀ l rest, findLabel c l = some rest → aH C vs r n rest := by
  induction c with
  | skip => exact ⟨aH.skip, fun l rest h => by cases h⟩
  | region id ops d => exact ⟨aH.region X, fun l rest h => by cases h⟩
  | seq x y ihx ihy =>
    have e : bn (.seq x y) = yh (bn x) (bn y) := rfl
    rw [e, j9] at hrf
    have ihx := ihx fun z hz => hrf z (List.mem_append_left _ hz)
    have ihy := ihy fun z hz => hrf z (List.mem_append_right _ hz)
    refine ⟨aH.seq ihx.1 ihy.1, fun l rest h => ?_⟩
    cases hf : findLabel x l with
    | none => simp [findLabel, hf] at h; exact ihy.2 l rest h
    | some rx =>
      simp [findLabel, hf] at h
      rw [← h]
      exact aH.seq (ihx.2 l rx hf) ihy.1
  | cond c x y ihx ihy =>
    have e : bn (.cond c x y) = yh (bn x) (bn y) := rfl
    rw [e, j9] at hrf
    have ihx := ihx fun z hz => hrf z (List.mem_append_left _ hz)
    have ihy := ihy fun z hz => hrf z (List.mem_append_right _ hz)
    exact ⟨aH.cond X ihx.1 ihy.1, fun l rest h => by cases h⟩
  | block id x ih => exact ⟨aH.block (ih hrf).1, fun l rest h => by cases h⟩
  | loop x ih => exact ⟨aH.loop (ih hrf).1, fun l rest h => by cases h⟩
  | rangeFunc f ps x y ihx ihy => exact ⟨hrf _ (List.mem_cons_self ..), fun l rest h => by cases h⟩
  | exit id => exact ⟨aH.exit, fun l rest h => by cases h⟩
  | scope x ih => exact ⟨aH.scope (ih hrf).1 (ih hrf).2, fun l rest h => by cases h⟩
  | label l' =>
    refine ⟨aH.label, fun l rest h => ?_⟩
    by_cases e : l' = l
    · simp [findLabel, e] at h
      rw [← h]; exact aH.skip
    · simp [findLabel, e] at h
  | goto l' => exact ⟨aH.goto, fun l rest h => by cases h⟩
  | ret => exact ⟨aH.ret, fun l rest h => by cases h⟩
  | refuse s => exact ⟨aH.refuse, fun l rest h => by cases h⟩
end
theorem jb : ∀ (n j : Nat), (blank n).at j = .uu
  | 0, j | 1, j | 2, j | 3, j | 4, j | 5, j | 6, j | 7, j => by rcases j with _ | _ | _ | _ | _ | _ | _ | _ | j <;> rfl
  | n + 8, j => by
    rcases j with _ | _ | _ | _ | _ | _ | _ | _ | j
    iterate 8 rfl
    exact jb n j
theorem hJ {R : ab} (hR : R ≠ .fail) : ∀ {l : Row} {i : Nat} {fr : Fr} {k : Fr → ab}, lS i l fr k = R → ∃ fr', k fr' = R ∧ ∀ j, fr'.at j = if i ≤ j ∧ j < i + len l then nth l (j - i) else fr.at j
  | .lf, i, fr, k, h => ⟨fr, h, fun j => by rw [if_neg (by show ¬ (i ≤ j ∧ j < i + 0); omega)]⟩
  | .nd v a l, i, fr, k, h => by
    obtain ⟨fr1, h1, h2⟩ := ji hR i (k := fun fr => lS (Nat.succ i) l fr k) h
    obtain ⟨fr', h3, h4⟩ := hJ hR h2
    refine ⟨fr', h3, fun j => ?_⟩
    rw [h4 j, h1 j]
    show _ = if i ≤ j ∧ j < i + (len l + 1) then nth (.nd v a l) (j - i) else fr.at j
    by_cases e : j = i
    · subst e
      rw [if_neg (by omega), if_pos rfl, if_pos (by omega), Nat.sub_self]; rfl
    · by_cases e2 : i + 1 ≤ j ∧ j < i + 1 + len l
      · rw [if_pos e2, if_pos (by omega), show j - i = (j - (i + 1)) + 1 by omega]; rfl
      · rw [if_neg e2, if_neg e, if_neg (by omega)]
theorem ln : ∀ l : Row, zd l = len l
  | .lf => rfl
  | .nd _ _ l => congrArg (· + 1) (ln l)
theorem fy {n : Nat} {l : List Nat} (h : cu n l = true) : ∀ j, j < n → idxOf j l 0 = .f j := by
  have key : ∀ (n s : Nat) (l : List Nat), (Nat.rec (motive := fun _ => Nat → List Nat → Bool) (fun _ _ => true) (fun _ ih i l => List.rec (motive := fun _ => Bool) false (fun a r _ => az (Nat.beq a i) (ih (Nat.succ i) r)) l) n s l : Bool) = true → ∀ j, j < n → idxOf (s + j) l s = .f (s + j) := by
    intro n
    induction n with
    | zero => intro s l _ j hj; omega
    | succ n ih =>
      intro s l h j hj
      cases l with
      | nil => cases h
      | cons a r =>
        have h' : az (Nat.beq a s) (Nat.rec (motive := fun _ => Nat → List Nat → Bool) (fun _ _ => true) (fun _ ih i l => List.rec (motive := fun _ => Bool) false (fun a r _ => az (Nat.beq a i) (ih (Nat.succ i) r)) l) n (Nat.succ s) r : Bool) = true := h
        rw [aB, an] at h'
        rw [idxOf_cons]
        cases j with
        | zero => rw [if_pos (by rw [h'.1]; rfl)]; rfl
        | succ j =>
          rw [if_neg (by rw [h'.1]; omega)]
          have := ih (s + 1) r h'.2 j (by omega)
          rw [show s + (j + 1) = s + 1 + j by omega]; exact this
  intro j hj
  have := key n 0 l h j hj
  rw [Nat.zero_add] at this
  exact this
section
variable {C : Cx} {vs : Vs} {R : ab} (ok : aT C.M) (hR : R ≠ .fail)
def gJ (tmps : Array Value) : ResultVar → Sem Value
  | .tmp t => pure (tmps.getD t undef)
  | .cell a t => do loadVar t (← asAddr (tmps.getD a undef))
include ok hR
theorem mL {fr : Fr} {hp : Hp} : ∀ {l : List ResultVar} {k : Row → ab}, resK C l fr hp k = R → ∃ r, k r = R ∧ len r = l.length ∧ ∀ {w : World} {F : Nat → Prop} {μ : Mu} {tmps : Array Value}, au (C.env vs) μ F hp w → (∀ t, ae w F μ (sig C .e .lf fr t) (tmps.getD t undef)) →
    ∃ us : List Value, (l.mapM (gJ tmps)).run C.P w = .ok us w ∧ us.length = l.length ∧ ∀ i u, us[i]? = some u → ae w F μ (nth r i) u
  | [], k, h => ⟨.lf, h, rfl, fun {w F μ tmps} _ _ => ⟨[], by simp, rfl, fun i u e => by cases e⟩⟩
  | .tmp t :: l, k, h => by
    obtain ⟨h1, _, _⟩ := jq hR (d := 0) (s := look C .e t) (sk := .lf) (fr := fr) (k := fun v => resK C l fr hp fun r => k (.nd v .lf r)) h
    obtain ⟨r, h2, h3, H⟩ := mL (l := l) h1
    refine ⟨_, h2, congrArg (· + 1) h3, fun {w F μ tmps} hH hsl => ?_⟩
    obtain ⟨us, e1, e2, e3⟩ := H hH hsl
    refine ⟨tmps.getD t undef :: us, by simp [List.mapM_cons, gJ, e1], congrArg (· + 1) e2, fun i u e => ?_⟩
    cases i with
    | zero => cases e; exact hsl t
    | succ i => exact e3 i u e
  | .cell t ty :: l, k, h => by
    obtain ⟨h1, _, _⟩ := jq hR (d := 0) (s := look C .e t) (sk := .lf) (fr := fr) (k := fun p => aq (known C.P ty) (rU C.M (isAgg C.P ty) (aC C.P ty) p hp fun v => resK C l fr hp fun r => k (.nd v .lf r))) h
    obtain ⟨hk, h2⟩ := ah hR h1
    have hptr : ∀ {w : World} {F : Nat → Prop} {μ : Mu} {u : Value}, ae w F μ (sv 0 (look C .e t) .lf fr) u → ∃ ad, u = .pointer (some ad) := by
      rcases dL hR h2 with ⟨b, o, e, _⟩ | ⟨tt, o, n, z, e, _⟩
      · intro w F μ u hu
        rw [e] at hu
        obtain ⟨m, _, rfl⟩ := dC hu
        exact ⟨_, rfl⟩
      · intro w F μ u hu
        rw [e] at hu
        cases hu; exact ⟨_, rfl⟩
    obtain ⟨v, h3, _, hrd⟩ := nV (V := C.env vs) ok hR (cM hk) h2
    obtain ⟨r, h4, h5, H⟩ := mL (l := l) h3
    refine ⟨_, h4, congrArg (· + 1) h5, fun {w F μ tmps} hH hsl => ?_⟩
    obtain ⟨us, e1, e2, e3⟩ := H hH hsl
    obtain ⟨x, q1, q2⟩ := hrd (hsl t) (hH.read _)
    obtain ⟨ad, had⟩ := hptr (hsl t)
    rw [had] at q1
    have hload : (gJ tmps (.cell t ty)).run C.P w = .ok x w := by
      rw [Instr.loadAt, Sem.run_bind, jC] at q1
      have q1' : (loadVar ty ad).run C.P w = .ok x w := q1
      simp [gJ, had, asAddr, q1']
    refine ⟨x :: us, by simp [List.mapM_cons, hload, e1], congrArg (· + 1) e2, fun i u e => ?_⟩
    cases i with
    | zero => cases e; exact q2
    | succ i => exact e3 i u e
omit ok hR in
theorem kW {P : Program} {fn : Func} {tmps : Array Value} {w : World} {us : List Value} (h : (fn.results.toList.mapM (gJ tmps)).run P w = .ok us w) : (results fn tmps).run P w = .ok (if h : us.toArray.size = 1 then us.toArray[0] else .tuple us.toArray) w := by
  have e : (fn.results.mapM (gJ tmps)).run P w = .ok us.toArray w := by
    rw [Array.mapM_eq_mapM_toList]
    simp [h]
  have e2 : results fn tmps = (do let vs ← fn.results.mapM (gJ tmps); pure (if h : vs.size = 1 then vs[0] else .tuple vs)) := by
    unfold results gJ
    congr 1
  rw [e2, Sem.run_bind, e]
  rfl
theorem lP {l : List ResultVar} {fr : Fr} {hp : Hp} (h : lN C l fr hp = R) : ∃ v, R = .val v hp ∧ ∀ {fn : Func} {w : World} {F : Nat → Prop} {μ : Mu} {tmps : Array Value}, fn.results.toList = l → au (C.env vs) μ F hp w → (∀ t, ae w F μ (sig C .e .lf fr t) (tmps.getD t undef)) → ∃ x, (results fn tmps).run C.P w = .ok x w ∧ ae w F μ v x := by
  unfold lN at h
  obtain ⟨r, h1, h2, H⟩ := mL (vs := vs) ok hR h
  have many : (∀ x, l ≠ [x]) → ab.val (.bM r l.length) hp = R → ∃ v, R = .val v hp ∧ ∀ {fn : Func} {w : World} {F : Nat → Prop} {μ : Mu} {tmps : Array Value}, fn.results.toList = l → au (C.env vs) μ F hp w → (∀ t, ae w F μ (sig C .e .lf fr t) (tmps.getD t undef)) → ∃ x, (results fn tmps).run C.P w = .ok x w ∧ ae w F μ v x := fun hne e => by
    refine ⟨_, e.symm, fun {fn w F μ tmps} hfn hH hsl => ?_⟩
    obtain ⟨us, e1, e2, e3⟩ := H hH hsl
    have hsz : us.toArray.size ≠ 1 := fun q => by
      rw [List.size_toArray, e2] at q
      obtain ⟨x, hx⟩ := List.length_eq_one_iff.1 q
      exact hne x hx
    refine ⟨.tuple us.toArray, ?_, .bM (fun i => us.toArray[i]?.getD undef) (by rw [List.size_toArray, h2, e2]) (fun i hi => by rw [Array.getElem?_eq_getElem hi]; rfl) fun i hi => ?_⟩
    · rw [kW (by rw [hfn]; exact e1), dif_neg hsz]
    · have hi' : i < us.length := by simpa using hi
      refine e3 i _ ?_
      rw [List.getElem?_toArray, List.getElem?_eq_getElem hi']; rfl
  cases l with
  | nil => exact many (fun x => by simp) h1
  | cons x l =>
    cases l with
    | nil =>
      cases r with
      | lf => exact aa hR h1
      | nd v a r' =>
        refine ⟨v, h1.symm, fun {fn w F μ tmps} hfn hH hsl => ?_⟩
        obtain ⟨us, e1, e2, e3⟩ := H hH hsl
        obtain ⟨u, rfl⟩ := List.length_eq_one_iff.1 e2
        refine ⟨u, ?_, e3 0 u rfl⟩
        rw [kW (by rw [hfn]; exact e1), dif_pos (by simp)]
        rfl
    | cons y l => exact many (fun x => by simp) h1
end
theorem au.other {V : Env} {μ : Mu} {F : Nat → Prop} {h : Hp} {w w' : World} (H : au V μ F h w) {r : Nat} (hsz : w'.heap.size = w.heap.size) (hk : ∀ X, X ≠ r → w'.heap[X]? = w.heap[X]?) (hw : ¬ WB h μ r) (hF : ¬ F r) : au V μ F h w' := by
  have same : ∀ B, F B → w'.heap[B]? = w.heap[B]? := fun B hB => hk B fun e => hF (e ▸ hB)
  refine ⟨fun b => ?_, H.dw, fun b m hm => by rw [hsz]; exact H.et b m hm, fun B hB => by rw [hsz]; exact H.fN B hB, H.jk.mono same fun _ h => h⟩
  have hb := H.aF b
  cases hX : h.at b with
  | dead => exact trivial
  | fwd i => rw [hX] at hb; exact hb.elim
  | row rw fl z s t =>
    rw [hX] at hb
    obtain ⟨m, c, T, fz, p1, p2, p3, p4, p5, p6, p7⟩ := hb
    have hne : m.aF ≠ r := fun e => by
      cases rw with
      | true => exact hw ⟨b, m, by rw [hX]; exact rfl, p1, e⟩
      | false => exact hF (e ▸ p7 rfl)
    exact ⟨m, c, T, fz, p1, (hk _ hne).trans p2, p3, fun i hi => let ⟨u, u1, u2, u3⟩ := p4 i hi; ⟨u, u1, u2, u3.mono same (fun _ h => h) (fun _ _ h => h)⟩, p5, p6, p7⟩
  | map n t =>
    rw [hX] at hb
    obtain ⟨m, es, clk, p1, p2, p3, p4, p5⟩ := hb
    have hne : m.aF ≠ r := fun e => hw ⟨b, m, by rw [hX]; exact trivial, p1, e⟩
    exact ⟨m, es, clk, p1, (hk _ hne).trans p2, p3, p4, fun i hi => let ⟨u, u1, u2, u3⟩ := p5 i hi; ⟨u, u1, u2.mono same (fun _ h => h) (fun _ _ h => h), u3.mono same (fun _ h => h) (fun _ _ h => h)⟩⟩
  | loop st f i fr =>
    rw [hX] at hb
    obtain ⟨m, L, p1, p2, p3, p4⟩ := hb
    have hne : m.aF ≠ r := fun e => hw ⟨b, m, by rw [hX]; exact trivial, p1, e⟩
    exact ⟨m, L, p1, (hk _ hne).trans p2, p3, p4.mono same (fun _ h => h) (fun _ _ h => h)⟩
theorem dD {V : Env} {n : Nat} {fn : Func} {tmps : Array Value} {Rp : Ending → World → Prop} {s0 : ek} {μ μ0 : Mu} {F F0 : Nat → Prop} {hp h0 : Hp} {w0 wI : World}
    (hfin : ∀ w, au V μ F hp w → bR μ0 F0 h0 w0 μ F hp w → (∀ B, F B → w.heap[B]? = wI.heap[B]?) → LeavesInM (Wf none) n V.P fn tmps Rp s0.D .returning w) (hs : w0.heap.size ≤ s0.n) : ∀ (ds : List Deferred) (w : World), au V μ F hp w → bR μ0 F0 h0 w0 μ F hp w → (∀ B, F B → w.heap[B]? = wI.heap[B]?) → dr s0 hp μ F w ds → LeavesInM (Wf none) n V.P fn tmps Rp (ds ++ s0.D) .returning w
  | [], w, H, E, hI, _ => by
    exact hfin w H E hI
  | d :: ds, w, H, E, hI, ⟨⟨r, h1, h2, h3, h4, h5, h6, h7⟩, hr⟩ => by
    let w' : World := { w with heap := w.heap.setIfInBounds r (.deferred none) }
    have hne : ∀ X, X ≠ r → w'.heap[X]? = w.heap[X]? := fun X hX => by
      show (w.heap.setIfInBounds r (.deferred none))[X]? = _
      rw [Array.getElem?_setIfInBounds, if_neg (Ne.symm hX)]
    have hsz : w'.heap.size = w.heap.size := by show (w.heap.setIfInBounds r _).size = _; simp
    have H' : au V μ F hp w' := H.other hsz hne h5 h6
    have E' : bR μ0 F0 h0 w0 μ F hp w' := by
      refine ⟨⟨E.ext.mu, E.ext.fr, by rw [hsz]; exact E.ext.size, fun B hB ho => (hne B (by omega)).trans (E.ext.keep B hB ho), E.ext.own, E.ext.wb, E.ext.iq, E.ext.eW, E.ext.nx, E.ext.pr, E.ext.rb, E.ext.io⟩, E.ids⟩
    have M' : dr s0 hp μ F w' ds := by
      clear hfin
      revert hr h7
      induction ds with
      | nil => exact fun _ _ => trivial
      | cons d' ds ih =>
        intro h7 ⟨⟨r', q1, q2, q3, q4, q5, q6, q7⟩, hr'⟩
        have hne' : r' ≠ r := fun e => h7 d' (List.mem_cons_self ..) (e ▸ q1)
        exact ⟨⟨r', q1, q2, by rw [hsz]; exact q3, (hne r' hne').trans q4, q5, q6, q7⟩, ih (fun d'' hd => h7 d'' (List.mem_cons_of_mem _ hd)) hr'⟩
    refine ⟨by simp, .inl ⟨r, w', h1, ?_, dD hfin hs ds w' H' E' (fun B hB => (hne B fun e => h6 (e ▸ hB)).trans (hI B hB)) M'⟩⟩
    simp [Instr.takeDeferred, getObj, setObj, Sem.run, h4, w']
def eI (w : World) (F : Nat → Prop) (μ : Mu) (l : Row) (args : Array Value) : Prop := len l = args.size ∧ ∀ i u, args[i]? = some u → ae w F μ (nth l i) u
def Can (P : Program) (f : FuncId) : Prop := ∃ fn, P.funcs[f]? = some fn ∧ fn.body.isNone = false ∧ (fn.name == "runtime.NumGoroutine") = false
def ai (V : Env) (f : FuncId) (G : ao) : Prop := ∀ (l : Row) (hp : Hp) (R : ab), G.f l hp = R → R ≠ .fail → Can V.P f ∧ ∃ v hp', R = .val v hp' ∧
  ∀ (w : World) (μ : Mu) (F : Nat → Prop) (args : Array Value) (n : Nat), au V μ F hp w → eI w F μ l args → CallsIn (Wf none) n V.P f args w fun e w' => ∃ x, e = .returned x ∧ ∃ μ' F', ae w' F' μ' v x ∧ au V μ' F' hp' w' ∧ bR μ F hp w μ' F' hp' w'
theorem nN {c : Code} (h : lR c = true) : (bn c).length ≤ 1 := by
  unfold lR at h
  revert h
  generalize bn c = l
  intro h
  cases l with
  | nil => exact Nat.zero_le _
  | cons x r =>
    cases r with
    | nil => exact Nat.le_refl _
    | cons y r => exact Bool.noConfusion h
theorem gH {c : Code} (h : nj c = true) : bn c = [] := by
  unfold nj at h
  revert h
  generalize bn c = l
  intro h
  cases l with
  | nil => rfl
  | cons x r => exact Bool.noConfusion h
theorem a4r {C : Cx} {vs : Vs} (X : oD C vs) (hname : ∀ fn, C.P.funcs[C.self]? = some fn → (fn.name == "runtime.NumGoroutine") = false)
    (hrf : ∀ fn c n, C.P.funcs[C.self]? = some fn → fn.body = some c → (bn c).length ≤ 1 → ∀ x ∈ bn c, aH C vs none n (.rangeFunc x.1 x.2.1 x.2.2.1 x.2.2.2)) : ai (C.env vs) C.self (ax C) := by
  intro l hp R h hR
  unfold ax at h
  split at h
  · exact aa hR h
  · rename_i fn hfn
    rw [c8, Array.getElem?_toList] at hfn
    split at h
    · exact aa hR h
    · rename_i c hbody
      have h0 : (Bool.rec (motive := fun _ => ao) gG (Bool.rec (motive := fun _ => ao) gG ⟨fun l hp => aq (Nat.beq (zd l) (fn.params.size + fn.nfree)) (lS 0 l (blank C.vars.length) fun fr =>
        ab.rec (motive := fun _ => ab) (fun fr hp => lN C fn.results.toList fr hp) (fun _ _ _ => .fail) (fun fr hp => lN C fn.results.toList fr hp) (fun _ _ => .fail) .fail (((den C c).run .e (fun _ => jv) [] ku).run .lf fr hp))⟩ (cu (fn.params.size + fn.nfree) C.vars)) (az (lR c) (Nat.ble C.nt fn.ntmps)) : ao).f l hp = R := h
      cases hnt : az (lR c) (Nat.ble C.nt fn.ntmps) with
      | false => rw [hnt] at h0; exact aa hR h0
      | true =>
        rw [hnt] at h0
        rw [aB, aK] at hnt
        obtain ⟨hfew, hnt⟩ := hnt
        cases hhv : cu (fn.params.size + fn.nfree) C.vars with
        | false => rw [hhv] at h0; exact aa hR h0
        | true =>
          rw [hhv] at h0
          have hvars := fy hhv
          obtain ⟨hlen, h1⟩ := ah hR h0
          rw [an, ln] at hlen
          obtain ⟨fr0, h2, hfr⟩ := hJ hR h1
          generalize hRb : ((den C c).run .e (fun _ => jv) [] ku).run .lf fr0 hp = Rb at h2
          have hRb0 : Rb ≠ .fail := fun e => by rw [e] at h2; exact hR h2.symm
          refine ⟨⟨fn, hfn, by rw [hbody]; rfl, hname fn hfn⟩, ?_⟩
          have hend : ∃ fr' hp', (Rb = .ok fr' hp' ∨ Rb = .ret fr' hp') ∧ lN C fn.results.toList fr' hp' = R := by
            cases Rb with
            | ok fr' hp' => exact ⟨fr', hp', .inl rfl, h2⟩
            | ret fr' hp' => exact ⟨fr', hp', .inr rfl, h2⟩
            | _ => exact aa hR h2
          obtain ⟨fr', hp', hor, h3⟩ := hend
          obtain ⟨v, h4, H⟩ := lP (vs := vs) X.ok hR h3
          refine ⟨v, hp', h4, fun w μ F args n hH ha => ?_⟩
          refine callsIn_of_wp_marks (c := c) hfn hbody trivial ?_ rfl
          have hSt : St C (C.env vs) (.of w.heap.size) .e .lf fr0 hp μ F { tmps := args ++ Array.replicate (fn.ntmps - args.size) undef, defers := [] } w := by
            refine ⟨bN.e, fun t => ?_, hH, ?_, ⟨[], rfl, trivial⟩⟩
            · show ae w F μ (sv 0 (look C .e t) .lf fr0) _
              have e : look C .e t = idxOf t C.vars 0 := rfl
              rw [e]
              rcases dB (l := C.vars) (t := t) (i := 0) with ⟨j, hj⟩ | hj
              · rw [hj]
                show ae w F μ (fr0.at j) _
                rw [hfr j]
                by_cases hjl : 0 ≤ j ∧ j < 0 + len l
                · rw [if_pos hjl, Nat.sub_zero]
                  have ht : t = j := dI hj (hvars j (by omega))
                  subst ht
                  have hlt : t < args.size := by have := ha.1; omega
                  have : (args ++ Array.replicate (fn.ntmps - args.size) undef).getD t undef = args[t] := by
                    rw [Array.getD_eq_getD_getElem?, Array.getElem?_append_left hlt, Array.getElem?_eq_getElem hlt]; rfl
                  rw [this]
                  exact ha.2 t _ (Array.getElem?_eq_getElem hlt)
                · rw [if_neg hjl, jb]; exact .uu _
              · rw [hj]; exact .uu _
            · show C.nt ≤ (args ++ Array.replicate (fn.ntmps - args.size) undef).size
              simp only [Array.size_append, Array.size_replicate]
              omega
          have fin : ∀ (fr2 : Fr) (hp2 : Hp) (a' : Act) (w' : World), (Rb = .ok fr2 hp2 ∨ Rb = .ret fr2 hp2) → At C vs (.of w.heap.size) μ F hp w .e .lf fr2 hp2 a' w' →
              LeavesInM (Wf none) n C.P fn a'.tmps (fun e w' => ∃ x, e = .returned x ∧ ∃ μ' F', ae w' F' μ' v x ∧ au (C.env vs) μ' F' hp' w' ∧ bR μ F hp w μ' F' hp' w') a'.defers .returning w' := fun fr2 hp2 a' w' hor2 ⟨μ', F', S', E'⟩ => by
            have hsame : fr2 = fr' ∧ hp2 = hp' := by
              rcases hor with e | e <;> rcases hor2 with e2 | e2 <;> rw [e] at e2 <;> cases e2 <;> exact ⟨rfl, rfl⟩
            obtain ⟨rfl, rfl⟩ := hsame
            obtain ⟨ms, hms, hmk⟩ := S'.df
            rw [hms]
            refine dD (V := C.env vs) (s0 := .of w.heap.size) (μ := μ') (F := F') (hp := hp2) (μ0 := μ) (F0 := F) (h0 := hp) (w0 := w) (wI := w') (fun w2 H2 E2 hI => ?_) (Nat.le_refl _) ms w' S'.h E' (fun _ _ => rfl) hmk
            obtain ⟨x, q1, q2⟩ := H (fn := fn) (tmps := a'.tmps) rfl H2 fun t => (S'.sl t).mono hI (fun _ h => h) (fun _ _ h => h)
            exact ⟨x, q1, x, rfl, μ', F', q2, H2, E2⟩
          refine (sO X c (hrf fn c n hfn hbody (nN hfew))).1 (s0 := .of w.heap.size) hRb0 hRb ⟨μ, F, hSt, bR.refl _ _ _ _⟩ (fun g2 sk2 fr2 hp2 a' w' e S' => fin fr2 hp2 a' w' (.inl e.symm) S'.drop) (fun id fr2 hp2 a' w' e _ => absurd e.symm (by exact fun q => hRb0 q)) (fun l fr2 hp2 a' w' e _ => absurd e.symm (by exact fun q => hRb0 q)) (fun fr2 hp2 a' w' e S' => fin fr2 hp2 a' w' (.inr e.symm) S')
structure bg (w : World) (F : Nat → Prop) (μ : Mu) (w' : World) (F' : Nat → Prop) (μ' : Mu) (v v' : AV) : Prop where
  val : ∀ u, ae w F μ v u → ae w' F' μ' v' u
  elem : ∀ i u, ae w F μ (elc v i) u → ae w' F' μ' (elc v' i) u
theorem yy {v : AV} (h : ∀ l n, v ≠ .agg l n) (i : Nat) : elc v i = .uu := by
  cases v with
  | agg l n => exact absurd rfl (h l n)
  | _ => rfl
theorem bg.mono {w w' w2 : World} {F F' F2 : Nat → Prop} {μ μ' μ2 : Mu} {v v' : AV} (h : bg w F μ w' F' μ' v v') (hw : ∀ B, F' B → w2.heap[B]? = w'.heap[B]?) (hF : ∀ B, F' B → F2 B) (hm : ∀ b m, μ' b = some m → μ2 b = some m) : bg w F μ w2 F2 μ2 v v' :=
  ⟨fun u hu => (h.val u hu).mono hw hF hm, fun i u hu => (h.elem i u hu).mono hw hF hm⟩
theorem bg.pre {w w1 w' : World} {F F1 F' : Nat → Prop} {μ μ1 μ' : Mu} {v v' : AV} (h : bg w1 F1 μ1 w' F' μ' v v') (hw : ∀ B, F B → w1.heap[B]? = w.heap[B]?) (hF : ∀ B, F B → F1 B) (hm : ∀ b m, μ b = some m → μ1 b = some m) : bg w F μ w' F' μ' v v' :=
  ⟨fun u hu => h.val u (hu.mono hw hF hm), fun i u hu => h.elem i u (hu.mono hw hF hm)⟩
theorem bg.plain {w w' : World} {F F' : Nat → Prop} {μ μ' : Mu} {v v' : AV} (hn : ∀ l n, v' ≠ .agg l n) (h : ∀ u, ae w F μ v u → ae w' F' μ' v' u) : bg w F μ w' F' μ' v v' :=
  ⟨h, fun i u _ => by rw [yy hn]; exact .uu u⟩
theorem bg.agg {w w' : World} {F F' : Nat → Prop} {μ μ' : Mu} {l r : Row} {n : Nat} (h : ∀ i u, ae w F μ (nth l i) u → ae w' F' μ' (nth r i) u) : bg w F μ w' F' μ' (.agg l n) (.agg r n) :=
  ⟨fun u hu => by
    cases hu with
    | agg us h1 h2 h3 h4 => exact .agg us h1 h2 h3 fun i hi => h i _ (h4 i hi), h⟩
theorem bg.bM {w w' : World} {F F' : Nat → Prop} {μ μ' : Mu} {l r : Row} {n : Nat} (hl : len r = len l) (h : ∀ i u, ae w F μ (nth l i) u → ae w' F' μ' (nth r i) u) : bg w F μ w' F' μ' (.bM l n) (.bM r n) :=
  .plain (fun _ _ => by simp) fun u hu => by
    cases hu with
    | bM us h1 h2 h3 => exact .bM us (hl.trans h1) h2 fun i hi => h i _ (h3 i hi)
theorem bg.fn {w w' : World} {F F' : Nat → Prop} {μ μ' : Mu} {l r : Row} {f n m : Nat} (hl : len r = len l) (h : ∀ i u, ae w F μ (nth l i) u → ae w' F' μ' (nth r i) u) : bg w F μ w' F' μ' (.x 3 l f n m) (.x 3 r f n m) :=
  .plain (fun _ _ => by simp) fun u hu => by
    cases hu with
    | fn us h1 h2 h3 h4 h5 h6 => exact .fn us h1 h2 (hl.trans h3) h4 h5 fun i hi => h i _ (h6 i hi)
theorem bg.iface {w w' : World} {F F' : Nat → Prop} {μ μ' : Mu} {l r : Row} {a b c : Nat} (h : ∀ i u, ae w F μ (nth l i) u → ae w' F' μ' (nth r i) u) : bg w F μ w' F' μ' (.x 12 l a b c) (.x 12 r a b c) :=
  .plain (fun _ _ => by simp) fun u hu => by
    cases hu with
    | iface h1 => exact .iface (h 0 _ h1)
theorem bg.free {w : World} {F : Nat → Prop} {μ μ' : Mu} {v : AV} (h : v.aS = true) (hn : ∀ l n, v ≠ .agg l n) : bg w F μ w F μ' v v := .plain hn fun _ hu => hu.free h μ'
theorem kU {l : Row} (h : ∀ i, i < len l → (nth l i).cT = true) (i : Nat) : (nth l i).aS = true := by
  by_cases hi : i < len l
  · exact bJ (h i hi)
  · rw [mA (by omega)]; rfl
def ZOk (V : Env) (z : ZK) : Prop := ∀ (hp : Hp) (v : AV) (k : AV → Hp → ab) (R : ab), R ≠ .fail → z.f hp v k = R → ∃ v' hp', k v' hp' = R ∧ ∀ (w : World) (F : Nat → Prop) (μ : Mu), au V μ F hp w → ∃ F', au V μ F' hp' w ∧ Ext μ F hp w μ F' hp' w ∧ bg w F μ w F' bz v v'
section
variable {V : Env} {M : Mem} (ok : aT M)
theorem vP {z : ZK} (hz : ZOk V z) {R : ab} (hR : R ≠ .fail) : ∀ {l : Row} {hp : Hp} {k : Row → Hp → ab}, zl z l hp k = R → ∃ r hp', k r hp' = R ∧ len r = len l ∧ ∀ (w : World) (F : Nat → Prop) (μ : Mu), au V μ F hp w → ∃ F', au V μ F' hp' w ∧ Ext μ F hp w μ F' hp' w ∧ ∀ i u, ae w F μ (nth l i) u → ae w F' bz (nth r i) u
  | .lf, hp, k, h => ⟨.lf, hp, h, rfl, fun w F μ H => ⟨F, H, Ext.refl _ _ _ _, fun i u _ => by cases i <;> exact .uu u⟩⟩
  | .nd v a l, hp, k, h => by
    obtain ⟨v', h1, g1, H1⟩ := hz hp v (fun v hp => zl z l hp fun r hp => k (.nd v .lf r) hp) R hR h
    obtain ⟨r, h2, g2, hl, H2⟩ := vP hz hR g1
    refine ⟨_, h2, g2, congrArg (· + 1) hl, fun w F μ H => ?_⟩
    obtain ⟨F1, q1, q2, q3⟩ := H1 w F μ H
    obtain ⟨F2, p1, p2, p3⟩ := H2 w F1 μ q1
    refine ⟨F2, p1, q2.trans p2, fun i u hu => ?_⟩
    cases i with
    | zero => exact (q3.val u hu).mono (fun _ _ => rfl) p2.fr (fun _ _ h => h)
    | succ i => exact p3 i u (hu.mono (fun _ _ => rfl) q2.fr (fun _ _ h => h))
include ok
theorem aeg {z : ZK} (hz : ZOk V z) {R : ab} (hR : R ≠ .fail) (n : Nat) : ∀ {hp : Hp} {t : Row} {o : Nat} {d : Row} {p : Nat} {k : Row → Hp → ab}, (zr M z n).f hp t o d p k = R → ∃ d' hp', k d' hp' = R ∧ (∀ j, ¬ (p ≤ j ∧ j < p + n) → d'.at j = d.at j) ∧
    ∀ (w : World) (F : Nat → Prop) (μ : Mu), au V μ F hp w → ∃ F', au V μ F' hp' w ∧ Ext μ F hp w μ F' hp' w ∧ ∀ j, j < n → bg w F μ w F' bz (t.at (o + j)) (d'.at (p + j)) := by
  induction n with
  | zero => intro hp t o d p k h; exact ⟨d, hp, h, fun _ _ => rfl, fun w F μ H => ⟨F, H, Ext.refl _ _ _ _, fun j hj => absurd hj (Nat.not_lt_zero _)⟩⟩
  | succ n ih =>
    intro hp t o d p k h
    have g1 := ok.rg hR (show M.rg.f t o (fun a => z.f hp a fun a hp => M.rs.f d p a fun d => (zr M z n).f hp t (Nat.succ o) d (Nat.succ p) k) = R from h)
    obtain ⟨a', h1, g2, H1⟩ := hz hp (t.at o) (fun a hp => M.rs.f d p a fun d => (zr M z n).f hp t (Nat.succ o) d (Nat.succ p) k) R hR g1
    obtain ⟨d1, hd1, g3⟩ := ok.rs hR g2
    have hd1 : ∀ j, d1.at j = if j = p then a' else d.at j := fun j => hd1 j
    obtain ⟨d', h2, g4, hd, H2⟩ := ih g3
    refine ⟨d', h2, g4, fun j hj => ?_, fun w F μ H => ?_⟩
    · rw [hd j (by omega), hd1, if_neg (by omega)]
    · obtain ⟨F1, q1, q2, q3⟩ := H1 w F μ H
      obtain ⟨F2, p1, p2, p3⟩ := H2 w F1 μ q1
      refine ⟨F2, p1, q2.trans p2, fun j hj => ?_⟩
      cases j with
      | zero =>
        have e : d'.at (p + 0) = a' := by rw [hd (p + 0) (by omega), hd1, if_pos (Nat.add_zero p)]
        rw [e]
        exact q3.mono (fun _ _ => rfl) p2.fr (fun _ _ h => h)
      | succ j =>
        have := p3 j (by omega)
        rw [show Nat.succ o + j = o + (j + 1) by omega, show Nat.succ p + j = p + (j + 1) by omega] at this
        exact this.pre (fun _ _ => rfl) q2.fr (fun _ _ h => h)
theorem a4u {z : ZK} (hz : ZOk V z) : ZOk V (frzS M z) := by
  intro hp v k R hR h
  have same : ∀ {v : AV}, v.aS = true → (∀ l n, v ≠ .agg l n) → k v hp = R → ∃ v' hp', k v' hp' = R ∧ ∀ (w : World) (F : Nat → Prop) (μ : Mu), au V μ F hp w → ∃ F', au V μ F' hp' w ∧ Ext μ F hp w μ F' hp' w ∧ bg w F μ w F' bz v v' := fun {v} hf hn g =>
    ⟨v, hp, g, fun w F μ H => ⟨F, H, Ext.refl _ _ _ _, bg.free hf hn⟩⟩
  have lists : ∀ {l : Row} {q : Row → AV}, (∀ {w : World} {F F' : Nat → Prop} {μ : Mu} {r : Row}, len r = len l → (∀ i u, ae w F μ (nth l i) u → ae w F' bz (nth r i) u) → bg w F μ w F' bz v (q r)) → zl z l hp (fun r hp => k (q r) hp) = R → ∃ v' hp', k v' hp' = R ∧ ∀ (w : World) (F : Nat → Prop) (μ : Mu), au V μ F hp w → ∃ F', au V μ F' hp' w ∧ Ext μ F hp w μ F' hp' w ∧ bg w F μ w F' bz v v' := fun {l q} hq g => by
    obtain ⟨r, hp', g2, hl, H⟩ := vP hz hR g
    exact ⟨_, hp', g2, fun w F μ h => let ⟨F', q1, q2, q3⟩ := H w F μ h; ⟨F', q1, q2, hq hl q3⟩⟩
  cases v with
  | int => exact same rfl (fun _ _ => by simp) h
  | bool => exact same rfl (fun _ _ => by simp) h
  | str => exact same rfl (fun _ _ => by simp) h
  | ptr => exact aa hR h
  | ms b o n y =>
    obtain ⟨rw', fl, x, s, t, hB, hs, g1⟩ := eU ok hR (show hp.use M b (Nat.add o (Nat.mul n y)) (fun _ fl x s t => aq (Nat.beq x y) (aq (Nat.beq (Nat.mod o y) 0) (hp.put M b (.row false fl y s t) fun hp => when fl (aA (Nat.div o y) fun e => k (.vs t e n y) hp) ((zr M z n).f hp t (Nat.div o y) .lf 0 fun r hp => k (.vs r 0 n y) hp)))) = R from h)
    obtain ⟨hx, g2⟩ := ah hR g1
    rw [an] at hx; subst hx
    obtain ⟨ho, g3⟩ := ah hR g2
    rw [an] at ho
    have ho : o % x = 0 := ho
    have hs : o + n * x ≤ s := hs
    have hox : o / x * x = o := Nat.div_mul_cancel (Nat.dvd_of_mod_eq_zero ho)
    obtain ⟨h1, hset, _, g4⟩ := bw ok hR g3
    have fin : ∀ {w : World} {F F' : Nat → Prop} {μ : Mu} {t' : Row} {e : Nat}, au V μ F hp w → (∀ m, μ b = some m → F' m.aF) → (∀ i, i < n * x → ∀ u, ae w F μ (cellAt x t (o + i)) u → ae w F' bz (cellAt x t' (e * x + i)) u) → bg w F μ w F' bz (.ms b o n x) (.vs t' e n x) := fun {w F F' μ t' e} H hF hcell =>
      .plain (fun _ _ => by simp) fun u hu => by
        cases hu with
        | pN => exact .pP
        | @ms _ _ _ _ _ c m hm hc hcs =>
          have hbr := H.aF b
          rw [hB] at hbr
          obtain ⟨us, hus⟩ := eD (fun i (hi : i < n * x) => hbr.cells hm (o + i) (by omega))
          exact .vs us (hF m hm) hc (fun i hi => by have := (hus i hi).1; rw [← Nat.add_assoc] at this; exact this) (fun i hi => (hus i hi).2.1) fun i hi => hcell i hi _ (hus i hi).2.2
    have place : ∀ {w : World} {F : Nat → Prop} {μ : Mu}, au V μ F hp w → ∃ m, μ b = some m := fun H => (ofRow H hB).1
    rcases ar hR g4 with ⟨hfl, g5⟩ | ⟨_, g5⟩
    · rw [aw] at g5
      refine ⟨_, h1, g5, fun w F μ H => ?_⟩
      obtain ⟨m, hm⟩ := place H
      obtain ⟨q1, q2⟩ := H.mark hB hm (fun h => h) hset
      refine ⟨_, q1, q2, fin H (fun m' hm' => by rw [hm] at hm'; cases hm'; exact .inr rfl) fun i hi u hu => ?_⟩
      have hfree := (ofRow H hB).2 hfl (o + i) (by omega)
      have e : Nat.div o x * x + i = o + i := by show o / x * x + i = _; rw [hox]
      rw [e]
      exact (hu.free hfree bz).mono (fun _ _ => rfl) (fun _ h => .inl h) (fun _ _ h => h)
    · obtain ⟨d', h2, g6, _, H2⟩ := aeg ok hz hR n g5
      refine ⟨_, h2, g6, fun w F μ H => ?_⟩
      obtain ⟨m, hm⟩ := place H
      obtain ⟨q1, q2⟩ := H.mark hB hm (fun h => h) hset
      obtain ⟨F2, p1, p2, p3⟩ := H2 w _ μ q1
      refine ⟨F2, p1, q2.trans p2, fin H (fun m' hm' => by rw [hm] at hm'; cases hm'; exact p2.fr _ (.inr rfl)) fun i hi u hu => ?_⟩
      have hx0 : 0 < x := Nat.pos_of_ne_zero fun e => by subst e; omega
      have hu' : ae w (fun B => F B ∨ B = m.aF) μ (cellAt x t (o + i)) u := hu.mono (fun _ _ => rfl) (fun _ h => .inl h) (fun _ _ h => h)
      rw [Nat.zero_mul, Nat.zero_add]
      have hlt : i / x < n := (Nat.div_lt_iff_lt_mul hx0).2 hi
      have hp3 := p3 (i / x) hlt
      rw [Nat.zero_add] at hp3
      by_cases e1 : x = 1
      · subst e1
        rw [cellAt, if_pos rfl] at hu' ⊢
        rw [Nat.div_one] at hp3
        have e : Nat.div o 1 + i = o + i := by show o / 1 + i = _; rw [Nat.div_one]
        rw [e] at hp3
        exact hp3.val u hu'
      · rw [cellAt, if_neg e1] at hu' ⊢
        have e2 : (o + i) / x = Nat.div o x + i / x := by
          show _ = o / x + i / x
          rw [← hox, Nat.mul_comm, Nat.mul_add_div hx0, Nat.mul_div_cancel_left _ hx0]
        have e3 : (o + i) % x = i % x := by rw [← hox, Nat.mul_comm, Nat.mul_add_mod]
        rw [e2, e3] at hu'
        exact hp3.elem _ u hu'
  | vs t o n z' => exact ⟨_, hp, h, fun w F μ H => ⟨F, H, Ext.refl _ _ _ _, .plain (fun _ _ => by simp) fun u hu => by
      cases hu with
      | vs us hF hc h1 h2 h3 => exact .vs us hF hc h1 h2 h3
      | pP => exact .pP⟩⟩
  | agg l n =>
    obtain ⟨p, hp1, g1⟩ := dW (show gD l (fun p => when p (k (.agg l n) hp) (zl z l hp fun r hp => k (.agg r n) hp)) = R from h)
    rcases ar hR g1 with ⟨e, g2⟩ | ⟨_, g2⟩
    · exact ⟨_, hp, g2, fun w F μ H => ⟨F, H, Ext.refl _ _ _ _, .agg fun i u hu => hu.free (kU (hp1 e) i) bz⟩⟩
    · exact lists (q := fun r => .agg r n) (fun _ h => .agg h) g2
  | bM t n => exact lists (q := fun r => .bM r n) (fun hl h => .bM hl h) h
  | x gg t a b c =>
    have h' : when (Nat.ble 6 gg) (when (Nat.beq gg 12) (zl z t hp fun r hp => k (.x gg r a b c) hp) (k (.x gg t a b c) hp)) (when (Nat.beq gg 1) (k (.x gg t a b c) hp) (aq (Nat.beq gg 3) (zl z t hp fun r hp => k (.x gg r a b c) hp))) = R := h
    rcases ar hR h' with ⟨e6, g1⟩ | ⟨_, g1⟩
    · rw [aK] at e6
      rcases ar hR g1 with ⟨e, g2⟩ | ⟨e, g2⟩
      · rw [an] at e; subst e
        exact lists (q := fun r => .x 12 r a b c) (fun _ h => .iface h) g2
      · have hne : gg ≠ 12 := fun q => by rw [q] at e; cases e
        refine ⟨_, hp, g2, fun w F μ H => ⟨F, H, Ext.refl _ _ _ _, .plain (fun _ _ => by simp) fun u hu => ?_⟩⟩
        cases hu with
        | iface => exact absurd rfl hne
        | emp => exact .emp
        | mz => exact .mz
        | ju => exact .ju
        | mw => exact .mw
        | my => exact .my
        | la => exact .la
        | uu => omega
        | gV => omega
        | fn => omega
        | map => omega
        | yld => omega
    · rcases ar hR g1 with ⟨e, g2⟩ | ⟨_, g2⟩
      · rw [an] at e; subst e
        refine ⟨_, hp, g2, fun w F μ H => ⟨F, H, Ext.refl _ _ _ _, .plain (fun _ _ => by simp) fun u hu => ?_⟩⟩
        cases hu with
        | gV us hF hu h1 h2 => exact .gV us hF hu h1 h2
      · obtain ⟨e, g3⟩ := ah hR g2
        rw [an] at e; subst e
        exact lists (q := fun r => .x 3 r a b c) (fun hl h => .fn hl h) g3
theorem abq (n : Nat) : ZOk V (frz M n) := by
  induction n with
  | zero => exact fun _ _ _ _ hR h => aa hR h
  | succ n ih => exact a4u ok ih
end
end Go.Proofs.YtdlohaedegmiaaaGreatDoor.Ev
