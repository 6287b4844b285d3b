import Derived.Test.YtkgnabjcogmobaaGreatEvE
import Derived.RangeFuncLeaves
import Derived.RangeFuncIn
/- Code: loops and scopes of the machine, by fuel. -/
namespace Go.Proofs.YtkgnabjcogmobaaGreat.Ev
theorem least_of {p : Nat → Prop} (h : ∃ n, p n) : ∃ n, p n ∧ ∀ m, p m → n ≤ m := by
  obtain ⟨n, hn⟩ := h
  induction n using Nat.strongRecOn with
  | _ n ih =>
    by_cases h : ∃ m, m < n ∧ p m
    · obtain ⟨m, hm, hp⟩ := h; exact ih m hm hp
    · exact ⟨n, hn, fun m hm => Nat.le_of_not_lt fun hlt => h ⟨m, hlt, hm⟩⟩
open Classical in
noncomputable def least (p : Nat → Prop) : Nat := if h : ∃ n, p n then Classical.choose (least_of h) else 0
theorem least_spec {p : Nat → Prop} {n : Nat} (h : p n) : p (least p) ∧ least p ≤ n := by
  have he : ∃ n, p n := ⟨n, h⟩
  unfold least
  rw [dif_pos he]
  obtain ⟨h1, h2⟩ := Classical.choose_spec (least_of he)
  exact ⟨h1, h2 n h⟩
/-- A loop, by fuel. -/
theorem wpIn_loop_fuel {Fc : Fence} {n : Nat} {P : Program} {c : Code} {Q : Exit → Act → World → Prop} (J : Nat → Act → World → Prop) (h0 : ∀ a w, ¬ J 0 a w) (round : ∀ N a w, J (N + 1) a w → c.wpIn Fc n P (Exit.then (J N) Q) a w) {N : Nat} {a : Act} {w : World} (h : J N a w) : (Code.loop c).wpIn Fc n P Q a w := by
  refine wpIn_loop (fun a w => ∃ N, J N a w) (fun a w => least fun N => J N a w) ⟨N, h⟩ fun a w ⟨M, hM⟩ => ?_
  obtain ⟨h1, _⟩ := least_spec (p := fun N => J N a w) hM
  cases hl : least (fun N => J N a w) with
  | zero => rw [hl] at h1; exact absurd h1 (h0 a w)
  | succ L =>
    rw [hl] at h1
    refine wpIn_mono (round L a w h1) fun e a' w' hq => ?_
    cases e with
    | normal =>
      refine ⟨⟨L, hq⟩, ?_⟩
      have := (least_spec (p := fun N => J N a' w') hq).2
      show least (fun N => J N a' w') < L + 1
      omega
    | _ => exact hq
section scope
variable {P : Program} {b : Frame} {a : Act} {k : List Item} {cs : List Frame} {w : World}
theorem stepR_scope {c : Code} : step P (lone (b.atR a (.code (.scope c) :: k)) cs w) = .next (lone (b.atR a (.code c :: .inScope c :: k)) cs w) :=
  step_lone_go (by simp [stepG, stepG.exec, Frame.atR])
theorem stepR_inScope {c : Code} : step P (lone (b.atR a (.inScope c :: k)) cs w) = .next (lone (b.atR a k) cs w) :=
  step_lone_go (by simp [stepG, stepG.exec, Frame.atR])
end scope
/-- What a piece of a scope comes to: a jump to a label within it goes on there. -/
def scopePost (c : Code) (K : Code → Act → World → Prop) (Q : Exit → Act → World → Prop) : Exit → Act → World → Prop
  | .goto l, a, w => (∃ rest, findLabel c l = some rest ∧ K rest a w) ∨ (findLabel c l = none ∧ Q (.goto l) a w)
  | e, a, w => Q e a w
theorem wpIn_scope {Fc : Fence} {n : Nat} {P : Program} {c : Code} {Q : Exit → Act → World → Prop} (K : Nat → Code → Act → World → Prop) (h0 : ∀ d a w, ¬ K 0 d a w) (hs : ∀ N d a w, K (N + 1) d a w → d.wpIn Fc n P (scopePost c (K N) Q) a w) {N : Nat} {a : Act} {w : World} (h : K N c a w) : (Code.scope c).wpIn Fc n P Q a w := by
  intro b k cs hro hb hr
  have key : ∀ N d a w, K N d a w → ∃ e a' w', Q e a' w' ∧ ArrivesIn (Machine.fenced P Fc) P (lone (b.atR a (.code d :: .inScope c :: k)) cs w) b k cs e a' w' := by
    intro N
    induction N with
    | zero => intro d a w h; exact absurd h (h0 d a w)
    | succ N ih =>
      intro d a w h
      obtain ⟨e, a₁, w₁, hq, harr⟩ := hs N d a w h b (.inScope c :: k) cs hro hb hr
      cases e with
      | normal => exact ⟨.normal, a₁, w₁, hq, StepsIn.trans harr (.one (fenced_calm hb hr rfl) stepR_inScope)⟩
      | exit id =>
        have hx : exitTo id (.inScope c :: k) = exitTo id k := by simp [exitTo]
        exact ⟨.exit id, a₁, w₁, hq, fun k' hk => harr.1 k' (by rw [hx]; exact hk), fun hr' hk => harr.2 hr' (by rw [hx]; exact hk)⟩
      | goto l =>
        rcases hq with ⟨rest, hf, hK⟩ | ⟨hf, hq⟩
        · have hg : gotoIn l (.inScope c :: k) = some (.code rest :: .inScope c :: k) := by simp [gotoIn, hf]
          obtain ⟨e₂, a₂, w₂, hq₂, harr₂⟩ := ih rest a₁ w₁ hK
          exact ⟨e₂, a₂, w₂, hq₂, .of_steps (harr.1 _ hg) harr₂⟩
        · have hg : gotoIn l (.inScope c :: k) = gotoIn l k := by simp [gotoIn, hf]
          exact ⟨.goto l, a₁, w₁, hq, fun k' hk => harr.1 k' (by rw [hg]; exact hk), fun hr' hk => harr.2 hr' (by rw [hg]; exact hk)⟩
      | ret => exact ⟨_, a₁, w₁, hq, harr⟩
      | panic ch => exact ⟨_, a₁, w₁, hq, harr⟩
      | outgrown => exact ⟨_, a₁, w₁, hq, harr⟩
  obtain ⟨e, a', w', hq, harr⟩ := key N c a w h
  exact ⟨e, a', w', hq, .of_steps (.one (fenced_calm hb hr rfl) stepR_scope) harr⟩
section
variable {C : Cx}
theorem lab_find : ∀ (c : Code) (l : Nat), (den C c).lab l = (findLabel c l).map fun rest => (den C rest).run
  | .skip, _ | .region .., _ | .cond .., _ | .block .., _ | .loop _, _ | .rangeFunc .., _ | .exit _, _ | .scope _, _ | .goto _, _ | .ret, _ | .refuse _, _ => rfl
  | .label l', l => by
    have e : (den C (.label l')).lab l = (Bool.rec (motive := fun _ => Option (G → (G → Sm) → Exs → Sm → Sm)) none (some fun g k _ _ => k g) (Nat.beq l' l) : Option _) := rfl
    rw [e, bcase]
    by_cases h : l' = l
    · rw [if_pos (by rw [beqN]; exact h)]
      simp only [findLabel, beq_iff_eq, h, if_true]; rfl
    · rw [if_neg (by rw [beqN]; exact h)]
      simp [findLabel, h]
  | .seq a b, l => by
    have e : (den C (.seq a b)).lab l = (Option.rec (motive := fun _ => Option (G → (G → Sm) → Exs → Sm → Sm)) ((den C b).lab l) (fun r => some fun g k ex rt => r g (fun g => (den C b).run g k ex rt) ex rt) ((den C a).lab l) : Option _) := rfl
    rw [e, lab_find a l, lab_find b l]
    cases h : findLabel a l with
    | none => simp [findLabel, h]
    | some r => simp only [findLabel, h, Option.map_some]; rfl
theorem find_ls : ∀ (c : Code) (l : Nat), l ∉ (den C c).ls → findLabel c l = none
  | .skip, _, _ | .region .., _, _ | .cond .., _, _ | .block .., _, _ | .loop _, _, _ | .rangeFunc .., _, _ | .exit _, _, _ | .scope _, _, _ | .goto _, _, _ | .ret, _, _ | .refuse _, _, _ => rfl
  | .label l', l, h => by
    have e : (den C (.label l')).ls = [l'] := rfl
    rw [e, List.mem_singleton] at h
    simp [findLabel, Ne.symm h]
  | .seq a b, l, h => by
    have e : (den C (.seq a b)).ls = appL (den C a).ls (den C b).ls := rfl
    rw [e, appL_eq, List.mem_append, not_or] at h
    simp [findLabel, find_ls a l h.1, find_ls b l h.2]
theorem exOf_cons (n : Nat) (p : Nat × Sm) (l : Exs) : exOf n (p :: l) = if p.1 = n then p.2 else exOf n l := by
  show (Bool.rec (motive := fun _ => Sm) (exOf n l) p.2 (Nat.beq p.1 n) : Sm) = _
  rw [bcase]; simp only [beqN]
theorem goOn_eq (n : Nat) (fr : Fr) (hp : Hp) : ∀ (l : Exs), goOn l n fr hp = (exOf n l).run .lf fr hp
  | [] => rfl
  | p :: l => by
    rw [exOf_cons]
    show (Bool.rec (motive := fun _ => Res) (goOn l n fr hp) (p.2.run .lf fr hp) (Nat.beq p.1 n) : Res) = _
    rw [bcase]
    by_cases e : p.1 = n
    · rw [if_pos (by rw [beqN]; exact e), if_pos e]
    · rw [if_neg (by rw [beqN]; exact e), if_neg e, goOn_eq n fr hp l]
/-- Exits that are handed on as numbers. -/
theorem exMap_out {R : Res} (hR : R ≠ .fail) {n : Nat} {sk : Row} {fr : Fr} {hp : Hp} : ∀ {l : Exs}, (exOf n (exMap l)).run sk fr hp = R → R = .exit n fr hp
  | [], h => fail_out hR h
  | p :: l, h => by
    have h' : (exOf n ((p.1, exS p.1) :: exMap l)).run sk fr hp = R := h
    rw [exOf_cons] at h'
    split at h'
    · rename_i e
      simp only at e
      rw [← h', ← e]; rfl
    · exact exMap_out hR h'
theorem addL_out {R : Res} (hR : R ≠ .fail) {n : Nat} {sk : Row} {fr : Fr} {hp : Hp} {l : Exs} : ∀ {ls : List Nat}, (exOf n (addL ls (exMap l))).run sk fr hp = R → R = .exit n fr hp
  | [], h => exMap_out hR h
  | q :: ls, h => by
    have h' : (exOf n ((Nat.succ (Nat.mul 2 q), exS (Nat.succ (Nat.mul 2 q))) :: addL ls (exMap l))).run sk fr hp = R := h
    rw [exOf_cons] at h'
    split at h'
    · rename_i e
      simp only at e
      rw [← h', ← e]; rfl
    · exact addL_out hR h'
/-- The state behind a run of code, as seen from its beginning. -/
def At (C : Cx) (vs : Nat → List Nat) (s0 : Nat) (μ0 : Mu) (F0 : Nat → Prop) (h0 : Hp) (w0 : World) (g : G) (sk : Row) (fr : Fr) (hp : Hp) (a : Act) (w : World) : Prop := ∃ μ F, St C (C.env vs) w0.heap.size g sk fr hp μ F a w ∧ ExtC μ0 F0 h0 w0 μ F hp w
variable {vs : Nat → List Nat} {s0 : Nat} {μ0 : Mu} {F0 : Nat → Prop} {h0 : Hp} {w0 : World}
/-- Temporaries are forgotten. -/
theorem At.drop {g : G} {sk : Row} {fr : Fr} {hp : Hp} {a : Act} {w : World} (h : At C vs s0 μ0 F0 h0 w0 g sk fr hp a w) : At C vs s0 μ0 F0 h0 w0 .e .lf fr hp a w := by
  obtain ⟨μ, F, S, E⟩ := h
  refine ⟨μ, F, ⟨GInv.e, fun t => ?_, S.h, S.nt, S.df⟩, E⟩
  have e : look C .e t = idxOf t C.vars 0 := rfl
  show CRel w F μ (sv 0 (look C .e t) .lf fr) _
  rw [e]
  rcases idxOf_f (l := C.vars) (t := t) (i := 0) with ⟨j, hj⟩ | hj
  · rw [hj]
    have h1 := S.sl t
    have hl : look C g t = .f j := by
      rw [look_eq]
      rcases lookL_mem (z := idxOf t C.vars 0) (t := t) (l := g.m) with ⟨x, p1, p2, _⟩ | ⟨_, p2⟩
      · have := S.gi.nv x p1
        rw [p2, idxOf_var hj] at this; cases this
      · rw [p2]; exact hj
    unfold sig at h1
    rw [hl] at h1
    exact h1
  · rw [hj]; exact .undef _
/-- What is said of a piece of code. -/
def RunOk (C : Cx) (vs : Nat → List Nat) (r : Option Nat) (n : Nat) (c : Code) : Prop := ∀ {s0 : Nat} {μ0 : Mu} {F0 : Nat → Prop} {h0 : Hp} {w0 : World} {g : G} {k : G → Sm} {ex : Exs} {rt : Sm} {sk : Row} {fr : Fr} {hp : Hp} {R : Res} {a : Act} {w : World} {Q : Exit → Act → World → Prop}, R ≠ .fail → ((den C c).run g k ex rt).run sk fr hp = R → At C vs s0 μ0 F0 h0 w0 g sk fr hp a w →
  (∀ g' sk' fr' hp' a' w', (k g').run sk' fr' hp' = R → At C vs s0 μ0 F0 h0 w0 g' sk' fr' hp' a' w' → Q .normal a' w') →
  (∀ id fr' hp' a' w', (exOf (2 * id) ex).run .lf fr' hp' = R → At C vs s0 μ0 F0 h0 w0 .e .lf fr' hp' a' w' → Q (.exit id) a' w') →
  (∀ l fr' hp' a' w', (exOf (2 * l + 1) ex).run .lf fr' hp' = R → At C vs s0 μ0 F0 h0 w0 .e .lf fr' hp' a' w' → Q (.goto l) a' w') →
  (∀ fr' hp' a' w', rt.run .lf fr' hp' = R → At C vs s0 μ0 F0 h0 w0 .e .lf fr' hp' a' w' → Q .ret a' w') → c.wpIn (Wf r) n C.P Q a w
theorem endRun_out {R : Res} (hR : R ≠ .fail) {r : Res} {okk : Fr → Hp → Res} {ex : Exs} {rt : Sm} (h : endRun r okk ex rt = R) : (∃ fr hp, r = .ok fr hp ∧ okk fr hp = R) ∨ (∃ n fr hp, r = .exit n fr hp ∧ (exOf n ex).run .lf fr hp = R) ∨ ∃ fr hp, r = .ret fr hp ∧ rt.run .lf fr hp = R := by
  cases r with
  | ok fr hp => exact .inl ⟨fr, hp, rfl, h⟩
  | exit n fr hp => exact .inr (.inl ⟨n, fr, hp, rfl, by rw [← goOn_eq]; exact h⟩)
  | ret fr hp => exact .inr (.inr ⟨fr, hp, rfl, h⟩)
  | _ => exact fail_out hR h
end
end Go.Proofs.YtkgnabjcogmobaaGreat.Ev

/- Code. -/
namespace Go.Proofs.YtkgnabjcogmobaaGreat.Ev
structure CxOk (C : Cx) (vs : Nat → List Nat) : Prop where
  ok : MemOk C.M
  gl : C.gl = []
  mo : C.P.follows .mixedOrders = true
  calls : CallsOk C (C.env vs)
section
variable {C : Cx} {vs : Nat → List Nat} (X : CxOk C vs) {r : Option Nat} {n : Nat}
theorem RunOk.skip : RunOk C vs r n .skip := fun _ h S hN _ _ _ => wpIn_skip (hN _ _ _ _ _ _ h S)
theorem RunOk.label {l : Nat} : RunOk C vs r n (.label l) := fun _ h S hN _ _ _ => wpIn_label (hN _ _ _ _ _ _ h S)
theorem RunOk.seq {x y : Code} (hx : RunOk C vs r n x) (hy : RunOk C vs r n y) : RunOk C vs r n (.seq x y) := fun hR h S hN hE hG hT => by
  refine wpIn_seq (hx hR (show ((den C x).run _ (fun g => (den C y).run g _ _ _) _ _).run _ _ _ = _ from h) S (fun g' sk' fr' hp' a' w' h1 S1 => ?_) hE hG hT)
  exact hy hR h1 S1 hN hE hG hT
include X
theorem RunOk.region {id : Nat} {ops : Array Oper} {d : Bool} : RunOk C vs r n (.region id ops d) := by
  intro s0 μ0 F0 h0 w0 g k ex rt sk fr hp R a w Q hR h ⟨μ, F, S, E⟩ hN hE hG hT
  have h1 : (Bool.rec (motive := fun _ => Sm) (denOps C ops ops.toList g k) (denDraw C ops g k) d : Sm).run sk fr hp = R := h
  cases d with
  | false =>
    refine wpIn_region ?_
    rw [List.range_eq_range']
    have hsz : ops.size = ops.toList.length := by simp
    rw [hsz]
    exact denOps_ok X.ok hR X.calls X.gl ops.toList 0 (fun j o hj => by rw [Nat.zero_add, ← Array.getElem?_toList]; exact hj) h1 S fun g' sk' fr' hp' μ' F' a' w' q1 q2 q3 => hN _ _ _ _ _ _ q1 ⟨μ', F', q2, E.trans q3⟩
  | true => exact denDraw_ok X.ok hR X.calls X.gl X.mo h1 S fun g' sk' fr' hp' μ' F' a' w' q1 q2 q3 => hN _ _ _ _ _ _ q1 ⟨μ', F', q2, E.trans q3⟩
theorem RunOk.cond {c : Operand} {x y : Code} (hx : RunOk C vs r n x) (hy : RunOk C vs r n y) : RunOk C vs r n (.cond c x y) := by
  intro s0 μ0 F0 h0 w0 g k ex rt sk fr hp R a w Q hR h S hN hE hG hT
  let j := dropS (k .e)
  have h1 := rdO_out hR (C := C) (g := g) (x := c) (sk := sk) (fr := fr) (k := fun v => v.onBool fun t => when t (((den C x).run g (fun _ => j) ex rt).run sk fr hp) (((den C y).run g (fun _ => j) ex rt).run sk fr hp)) h
  obtain ⟨b, hb, h2⟩ := onBool_out hR h1
  obtain ⟨μ, F, St0, E⟩ := S
  have hc := ov_rel X.gl (a := a) c (fun t _ => St0.sl t)
  rw [hb] at hc
  have hN' : ∀ g' sk' fr' hp' a' w', (j).run sk' fr' hp' = R → At C vs s0 μ0 F0 h0 w0 g' sk' fr' hp' a' w' → Q .normal a' w' := fun g' sk' fr' hp' a' w' q1 q2 => hN .e .lf fr' hp' a' w' q1 q2.drop
  refine wpIn_cond (inv_bool hc) ?_
  rcases when_out hR h2 with ⟨e, h3⟩ | ⟨e, h3⟩
  · rw [if_pos e]
    exact hx hR h3 ⟨μ, F, St0, E⟩ hN' hE hG hT
  · rw [if_neg (by rw [e]; decide)]
    exact hy hR h3 ⟨μ, F, St0, E⟩ hN' hE hG hT
omit X
theorem RunOk.block {id : Nat} {x : Code} (hx : RunOk C vs r n x) : RunOk C vs r n (.block id x) := by
  intro s0 μ0 F0 h0 w0 g k ex rt sk fr hp R a w Q hR h S hN hE hG hT
  let j := dropS (k .e)
  have h1 : ((den C x).run g (fun _ => j) ((Nat.mul 2 id, j) :: ex) rt).run sk fr hp = R := h
  refine wpIn_block (hx hR h1 S (fun g' sk' fr' hp' a' w' q1 q2 => hN .e .lf fr' hp' a' w' q1 q2.drop) (fun id' fr' hp' a' w' q1 q2 => ?_) (fun l fr' hp' a' w' q1 q2 => ?_) hT)
  · rw [exOf_cons] at q1
    by_cases e : id' = id
    · subst e
      rw [if_pos (show Nat.mul 2 id' = 2 * id' from rfl)] at q1
      show Exit.inBlock id' Q (.exit id') a' w'
      simp only [Exit.inBlock, if_true]
      exact hN .e .lf fr' hp' a' w' q1 q2
    · rw [if_neg (fun q => e (by have q : 2 * id = 2 * id' := q; omega))] at q1
      show Exit.inBlock id Q (.exit id') a' w'
      simp only [Exit.inBlock, e, if_false]
      exact hE id' fr' hp' a' w' q1 q2
  · rw [exOf_cons, if_neg (fun q => by have q : 2 * id = 2 * l + 1 := q; omega)] at q1
    exact hG l fr' hp' a' w' q1 q2
theorem RunOk.exit {id : Nat} : RunOk C vs r n (.exit id) := fun _ h S _ hE _ _ => wpIn_exit (hE id _ _ _ _ h S.drop)
theorem RunOk.goto {l : Nat} : RunOk C vs r n (.goto l) := fun _ h S _ _ hG _ => wpIn_goto (hG l _ _ _ _ h S.drop)
theorem RunOk.ret : RunOk C vs r n .ret := fun _ h S _ _ _ hT => wpIn_ret (hT _ _ _ _ h S.drop)
theorem RunOk.refuse {s : String} : RunOk C vs r n (.refuse s) := fun hR h _ _ _ _ _ => fail_out hR h
theorem tick_out {R : Res} (hR : R ≠ .fail) {s : Sm} {ih : Fr → Hp → Res} {fr : Fr} {hp : Hp} (h : tick s ih fr hp = R) : s.run .lf fr hp ≠ .fail ∧ ((∃ fr' hp', s.run .lf fr hp = .ok fr' hp' ∧ ih fr' hp' = R) ∨ (∃ m fr' hp', s.run .lf fr hp = .exit m fr' hp' ∧ R = .exit m fr' hp') ∨ ∃ fr' hp', s.run .lf fr hp = .ret fr' hp' ∧ R = .ret fr' hp') := by
  unfold tick at h
  cases hs : s.run .lf fr hp with
  | ok fr' hp' => rw [hs] at h; exact ⟨by simp, .inl ⟨_, _, rfl, h⟩⟩
  | exit m fr' hp' => rw [hs] at h; exact ⟨by simp, .inr (.inl ⟨_, _, _, rfl, h.symm⟩)⟩
  | ret fr' hp' => rw [hs] at h; exact ⟨by simp, .inr (.inr ⟨_, _, rfl, h.symm⟩)⟩
  | _ => rw [hs] at h; exact fail_out hR h
theorem RunOk.loop {x : Code} (hx : RunOk C vs r n x) : RunOk C vs r n (.loop x) := by
  intro s0 μ0 F0 h0 w0 g k ex rt sk fr hp R a w Q hR h S hN hE hG hT
  let s := (den C x).run .e (fun _ => okS) (exMap ex) rtS
  have h1 : endRun (loopRun s 1000000 fr hp) (fun _ _ => .fail) ex rt = R := h
  generalize hN0 : 1000000 = N at h1
  generalize hres : loopRun s N fr hp = R1 at h1
  have hR1 : R1 ≠ .fail := fun e => by rw [e] at h1; exact hR h1.symm
  refine wpIn_loop_fuel (fun N a w => ∃ fr hp, loopRun s N fr hp = R1 ∧ At C vs s0 μ0 F0 h0 w0 .e .lf fr hp a w) (fun a w ⟨fr, hp, q, _⟩ => hR1 q.symm) (fun M a w ⟨fr, hp, q, S⟩ => ?_) (N := N) ⟨fr, hp, hres, S.drop⟩
  have q' : tick s (loopRun s M) fr hp = R1 := q
  obtain ⟨hb, hcases⟩ := tick_out hR1 q'
  -- how the body ends, and how the loop then ends
  have body : ∀ {Rb : Res}, s.run .lf fr hp = Rb → Rb ≠ .fail → (∀ fr' hp', Rb = .ok fr' hp' → loopRun s M fr' hp' = R1) → (∀ m fr' hp', Rb = .exit m fr' hp' → R1 = .exit m fr' hp') → (∀ fr' hp', Rb = .ret fr' hp' → R1 = .ret fr' hp') → x.wpIn (Wf r) n C.P (Exit.then (fun a w => ∃ fr hp, loopRun s M fr hp = R1 ∧ At C vs s0 μ0 F0 h0 w0 .e .lf fr hp a w) Q) a w := by
    intro Rb hs hRb h1' h2' h3'
    have ends : ∀ m fr' hp' , (exOf m (exMap ex)).run .lf fr' hp' = Rb → (exOf m ex).run .lf fr' hp' = R := fun m fr' hp' e => by
      have e2 := h2' m fr' hp' (exMap_out hRb e)
      rw [e2] at h1
      rw [← goOn_eq]; exact h1
    refine hx hRb hs S (fun g' sk' fr' hp' a' w' e S1 => ?_) (fun id fr' hp' a' w' e S1 => hE id fr' hp' a' w' (ends _ _ _ e) S1) (fun l fr' hp' a' w' e S1 => hG l fr' hp' a' w' (ends _ _ _ e) S1) (fun fr' hp' a' w' e S1 => ?_)
    · exact ⟨fr', hp', h1' fr' hp' e.symm, S1.drop⟩
    · have e2 := h3' fr' hp' e.symm
      rw [e2] at h1
      exact hT fr' hp' a' w' h1 S1
  rcases hcases with ⟨fr', hp', e1, e2⟩ | ⟨m, fr', hp', e1, e2⟩ | ⟨fr', hp', e1, e2⟩
  · exact body e1 (by simp) (fun _ _ e => by cases e; exact e2) (fun _ _ _ e => by cases e) (fun _ _ e => by cases e)
  · exact body e1 (by simp) (fun _ _ e => by cases e) (fun _ _ _ e => by cases e; exact e2) (fun _ _ e => by cases e)
  · exact body e1 (by simp) (fun _ _ e => by cases e) (fun _ _ _ e => by cases e) (fun _ _ e => by cases e; exact e2)
theorem pickLb (ls : List Nat) (segs : Lb) (ih : Sm → Fr → Hp → Res) (m : Nat) (fr : Fr) (hp : Hp) : (∃ l ∈ ls, m = 2 * l + 1 ∧ (List.rec (motive := fun _ => Res) (.exit m fr hp) (fun l _ r => Bool.rec (motive := fun _ => Res) r (ih (segs.f l) fr hp) (Nat.beq (Nat.succ (Nat.mul 2 l)) m)) ls : Res) = ih (segs.f l) fr hp) ∨
    ((∀ l ∈ ls, m ≠ 2 * l + 1) ∧ (List.rec (motive := fun _ => Res) (.exit m fr hp) (fun l _ r => Bool.rec (motive := fun _ => Res) r (ih (segs.f l) fr hp) (Nat.beq (Nat.succ (Nat.mul 2 l)) m)) ls : Res) = .exit m fr hp) := by
  induction ls with
  | nil => exact .inr ⟨fun _ h => (by cases h), rfl⟩
  | cons l ls ihl =>
    by_cases e : m = 2 * l + 1
    · refine .inl ⟨l, List.mem_cons_self .., e, ?_⟩
      show (Bool.rec (motive := fun _ => Res) _ (ih (segs.f l) fr hp) (Nat.beq (Nat.succ (Nat.mul 2 l)) m) : Res) = _
      rw [bcase, if_pos (by rw [beqN]; exact e.symm)]
    · have hb : ¬ Nat.beq (Nat.succ (Nat.mul 2 l)) m = true := by rw [beqN]; exact fun q => e q.symm
      rcases ihl with ⟨l', h1, h2, h3⟩ | ⟨h1, h2⟩
      · refine .inl ⟨l', List.mem_cons_of_mem _ h1, h2, ?_⟩
        show (Bool.rec (motive := fun _ => Res) _ (ih (segs.f l) fr hp) (Nat.beq (Nat.succ (Nat.mul 2 l)) m) : Res) = _
        rw [bcase, if_neg hb]; exact h3
      · refine .inr ⟨fun q hq => (List.mem_cons.1 hq).elim (fun h => h ▸ e) (h1 q), ?_⟩
        show (Bool.rec (motive := fun _ => Res) _ (ih (segs.f l) fr hp) (Nat.beq (Nat.succ (Nat.mul 2 l)) m) : Res) = _
        rw [bcase, if_neg hb]; exact h2
theorem RunOk.scope {x : Code} (hx : RunOk C vs r n x) (hl : ∀ l rest, findLabel x l = some rest → RunOk C vs r n rest) : RunOk C vs r n (.scope x) := by
  intro s0 μ0 F0 h0 w0 g k ex rt sk fr hp R a w Q hR h S hN hE hG hT
  let ex' := addL (den C x).ls (exMap ex)
  let j := k .e
  let segs : Lb := ⟨fun l => Option.rec (motive := fun _ => Sm) failS (fun r => r .e (fun _ => okS) ex' rtS) ((den C x).lab l)⟩
  let s := (den C x).run .e (fun _ => okS) ex' rtS
  have h1 : endRun (scopeRun (den C x).ls segs 1000000 s fr hp) (fun fr hp => j.run .lf fr hp) ex rt = R := h
  generalize hN0 : 1000000 = N at h1
  generalize hres : scopeRun (den C x).ls segs N s fr hp = R1 at h1
  have hR1 : R1 ≠ .fail := fun e => by rw [e] at h1; exact hR h1.symm
  refine wpIn_scope (fun N d a w => RunOk C vs r n d ∧ ∃ fr hp, scopeRun (den C x).ls segs N ((den C d).run .e (fun _ => okS) ex' rtS) fr hp = R1 ∧ At C vs s0 μ0 F0 h0 w0 .e .lf fr hp a w) (fun d a w ⟨_, fr, hp, q, _⟩ => hR1 q.symm) (fun M d a w ⟨hd, fr, hp, q, S⟩ => ?_) (N := N) ⟨hx, fr, hp, hres, S.drop⟩
  generalize hs : ((den C d).run .e (fun _ => okS) ex' rtS).run .lf fr hp = Rb
  have q' : scopeTick (den C x).ls segs (scopeRun (den C x).ls segs M) ((den C d).run .e (fun _ => okS) ex' rtS) fr hp = R1 := q
  unfold scopeTick at q'
  rw [hs] at q'
  have hRb : Rb ≠ .fail := fun e => by rw [e] at q'; exact hR1 q'.symm
  -- a way out of a piece, by its number
  have ends : ∀ m fr' hp', Rb = .exit m fr' hp' → (∃ l ∈ (den C x).ls, m = 2 * l + 1 ∧ scopeRun (den C x).ls segs M (segs.f l) fr' hp' = R1) ∨ ((∀ l ∈ (den C x).ls, m ≠ 2 * l + 1) ∧ (exOf m ex).run .lf fr' hp' = R) := fun m fr' hp' e => by
    rw [e] at q'
    rcases pickLb (den C x).ls segs (scopeRun (den C x).ls segs M) m fr' hp' with ⟨l, p1, p2, p3⟩ | ⟨p1, p2⟩
    · exact .inl ⟨l, p1, p2, p3.symm.trans q'⟩
    · refine .inr ⟨p1, ?_⟩
      have e3 : R1 = .exit m fr' hp' := q'.symm.trans p2
      rw [e3] at h1
      rw [← goOn_eq]; exact h1
  refine hd hRb hs S (fun g' sk' fr' hp' a' w' e S1 => ?_) (fun id fr' hp' a' w' e S1 => ?_) (fun l fr' hp' a' w' e S1 => ?_) (fun fr' hp' a' w' e S1 => ?_)
  · have e0 : Rb = .ok fr' hp' := e.symm
    rw [e0] at q'
    have q2 : R1 = .ok fr' hp' := q'.symm
    rw [q2] at h1
    exact hN .e .lf fr' hp' a' w' h1 S1.drop
  · rcases ends _ _ _ (addL_out hRb e) with ⟨l, _, p2, _⟩ | ⟨_, p2⟩
    · omega
    · exact hE id fr' hp' a' w' p2 S1
  · rcases ends _ _ _ (addL_out hRb e) with ⟨l', p1, p2, p3⟩ | ⟨p1, p2⟩
    · have : l' = l := by omega
      subst this
      cases hf : findLabel x l' with
      | some rest =>
        refine .inl ⟨rest, hf, hl l' rest hf, fr', hp', ?_, S1⟩
        have e4 : segs.f l' = (den C rest).run .e (fun _ => okS) ex' rtS := by
          show (Option.rec (motive := fun _ => Sm) failS (fun r => r .e (fun _ => okS) ex' rtS) ((den C x).lab l') : Sm) = _
          rw [lab_find, hf]; rfl
        rw [← e4]; exact p3
      | none =>
        exfalso
        have e4 : segs.f l' = failS := by
          show (Option.rec (motive := fun _ => Sm) failS (fun r => r .e (fun _ => okS) ex' rtS) ((den C x).lab l') : Sm) = _
          rw [lab_find, hf]; rfl
        rw [e4] at p3
        cases M with
        | zero => exact hR1 p3.symm
        | succ M => exact hR1 p3.symm
    · exact .inr ⟨find_ls x l fun hm => p1 l hm rfl, hG l fr' hp' a' w' p2 S1⟩
  · have e0 : Rb = .ret fr' hp' := e.symm
    rw [e0] at q'
    have q2 : R1 = .ret fr' hp' := q'.symm
    rw [q2] at h1
    exact hT fr' hp' a' w' h1 S1
include X
omit X in
theorem appR_eq {α : Type} (a b : List α) : appR a b = a ++ b := by
  induction a with
  | nil => rfl
  | cons x r ih => exact congrArg (x :: ·) ih
/-- All code. -/
theorem runOk (c : Code) (hrf : ∀ x ∈ rfIn c, RunOk C vs r n (.rangeFunc x.1 x.2.1 x.2.2.1 x.2.2.2)) : RunOk C vs r n c ∧ ∀ l rest, findLabel c l = some rest → RunOk C vs r n rest := by
  induction c with
  | skip => exact ⟨RunOk.skip, fun l rest h => by cases h⟩
  | region id ops d => exact ⟨RunOk.region X, fun l rest h => by cases h⟩
  | seq x y ihx ihy =>
    have e : rfIn (.seq x y) = appR (rfIn x) (rfIn y) := rfl
    rw [e, appR_eq] at hrf
    have ihx := ihx fun z hz => hrf z (List.mem_append_left _ hz)
    have ihy := ihy fun z hz => hrf z (List.mem_append_right _ hz)
    refine ⟨RunOk.seq ihx.1 ihy.1, fun l rest h => ?_⟩
    cases hf : findLabel x l with
    | none => simp [findLabel, hf] at h; exact ihy.2 l rest h
    | some rx =>
      simp [findLabel, hf] at h
      rw [← h]
      exact RunOk.seq (ihx.2 l rx hf) ihy.1
  | cond c x y ihx ihy =>
    have e : rfIn (.cond c x y) = appR (rfIn x) (rfIn y) := rfl
    rw [e, appR_eq] at hrf
    have ihx := ihx fun z hz => hrf z (List.mem_append_left _ hz)
    have ihy := ihy fun z hz => hrf z (List.mem_append_right _ hz)
    exact ⟨RunOk.cond X ihx.1 ihy.1, fun l rest h => by cases h⟩
  | block id x ih => exact ⟨RunOk.block (ih hrf).1, fun l rest h => by cases h⟩
  | loop x ih => exact ⟨RunOk.loop (ih hrf).1, fun l rest h => by cases h⟩
  | rangeFunc f ps x y ihx ihy => exact ⟨hrf _ (List.mem_cons_self ..), fun l rest h => by cases h⟩
  | exit id => exact ⟨RunOk.exit, fun l rest h => by cases h⟩
  | scope x ih => exact ⟨RunOk.scope (ih hrf).1 (ih hrf).2, fun l rest h => by cases h⟩
  | label l' =>
    refine ⟨RunOk.label, fun l rest h => ?_⟩
    by_cases e : l' = l
    · simp [findLabel, e] at h
      rw [← h]; exact RunOk.skip
    · simp [findLabel, e] at h
  | goto l' => exact ⟨RunOk.goto, fun l rest h => by cases h⟩
  | ret => exact ⟨RunOk.ret, fun l rest h => by cases h⟩
  | refuse s => exact ⟨RunOk.refuse, fun l rest h => by cases h⟩
end
end Go.Proofs.YtkgnabjcogmobaaGreat.Ev

/- Functions: arguments, results, the marks at the end. -/
namespace Go.Proofs.YtkgnabjcogmobaaGreat.Ev
theorem blank_at : ∀ (n j : Nat), (blank n).at j = .undef
  | 0, j | 1, j | 2, j | 3, j | 4, j | 5, j | 6, j | 7, j => by rcases j with _ | _ | _ | _ | _ | _ | _ | _ | j <;> rfl
  | n + 8, j => by
    rcases j with _ | _ | _ | _ | _ | _ | _ | _ | j
    iterate 8 rfl
    exact blank_at n j
theorem fillK_out {R : Res} (hR : R ≠ .fail) : ∀ {l : Row} {i : Nat} {fr : Fr} {k : Fr → Res}, fillK i l fr k = R → ∃ fr', k fr' = R ∧ ∀ j, fr'.at j = if i ≤ j ∧ j < i + len l then nth l (j - i) else fr.at j
  | .lf, i, fr, k, h => ⟨fr, h, fun j => by rw [if_neg (by show ¬ (i ≤ j ∧ j < i + 0); omega)]⟩
  | .nd v a l, i, fr, k, h => by
    obtain ⟨fr1, h1, h2⟩ := fset_out hR i (k := fun fr => fillK (Nat.succ i) l fr k) h
    obtain ⟨fr', h3, h4⟩ := fillK_out hR h2
    refine ⟨fr', h3, fun j => ?_⟩
    rw [h4 j, h1 j]
    show _ = if i ≤ j ∧ j < i + (len l + 1) then nth (.nd v a l) (j - i) else fr.at j
    by_cases e : j = i
    · subst e
      rw [if_neg (by omega), if_pos rfl, if_pos (by omega), Nat.sub_self]; rfl
    · by_cases e2 : i + 1 ≤ j ∧ j < i + 1 + len l
      · rw [if_pos e2, if_pos (by omega), show j - i = (j - (i + 1)) + 1 by omega]; rfl
      · rw [if_neg e2, if_neg e, if_neg (by omega)]
theorem lenR_eq : ∀ l : Row, lenR l = len l
  | .lf => rfl
  | .nd v a l => congrArg (· + 1) (lenR_eq l)
theorem headVars_out {n : Nat} {l : List Nat} (h : headVars n l = true) : ∀ j, j < n → idxOf j l 0 = .f j := by
  have key : ∀ (n s : Nat) (l : List Nat), (Nat.rec (motive := fun _ => Nat → List Nat → Bool) (fun _ _ => true) (fun _ ih i l => List.rec (motive := fun _ => Bool) false (fun a r _ => band (Nat.beq a i) (ih (Nat.succ i) r)) l) n s l : Bool) = true → ∀ j, j < n → idxOf (s + j) l s = .f (s + j) := by
    intro n
    induction n with
    | zero => intro s l _ j hj; omega
    | succ n ih =>
      intro s l h j hj
      cases l with
      | nil => cases h
      | cons a r =>
        have h' : band (Nat.beq a s) (Nat.rec (motive := fun _ => Nat → List Nat → Bool) (fun _ _ => true) (fun _ ih i l => List.rec (motive := fun _ => Bool) false (fun a r _ => band (Nat.beq a i) (ih (Nat.succ i) r)) l) n (Nat.succ s) r : Bool) = true := h
        rw [band_eq, beqN] at h'
        rw [idxOf_cons]
        cases j with
        | zero => rw [if_pos (by rw [h'.1]; rfl)]; rfl
        | succ j =>
          rw [if_neg (by rw [h'.1]; omega)]
          have := ih (s + 1) r h'.2 j (by omega)
          rw [show s + (j + 1) = s + 1 + j by omega]; exact this
  intro j hj
  have := key n 0 l h j hj
  rw [Nat.zero_add] at this
  exact this
section
variable {C : Cx} {vs : Nat → List Nat} {R : Res} (ok : MemOk C.M) (hR : R ≠ .fail)
/-- A result, as the machine reads it. -/
def resSem (tmps : Array Value) : ResultVar → Sem Value
  | .tmp t => pure (tmps.getD t undef)
  | .cell a t => do loadVar t (← asAddr (tmps.getD a undef))
include ok hR
theorem resK_out {fr : Fr} {hp : Hp} : ∀ {l : List ResultVar} {k : Row → Res}, resK C l fr hp k = R → ∃ r, k r = R ∧ len r = l.length ∧ ∀ {w : World} {F : Nat → Prop} {μ : Mu} {tmps : Array Value}, HRel (C.env vs) μ F hp w → (∀ t, CRel w F μ (sig C .e .lf fr t) (tmps.getD t undef)) →
    ∃ us : List Value, (l.mapM (resSem tmps)).run C.P w = .ok us w ∧ us.length = l.length ∧ ∀ i u, us[i]? = some u → CRel w F μ (nth r i) u
  | [], k, h => ⟨.lf, h, rfl, fun {w F μ tmps} _ _ => ⟨[], by simp, rfl, fun i u e => by cases e⟩⟩
  | .tmp t :: l, k, h => by
    obtain ⟨h1, _, _⟩ := mkRd_out hR (d := 0) (s := look C .e t) (sk := .lf) (fr := fr) (k := fun v => resK C l fr hp fun r => k (.nd v .lf r)) h
    obtain ⟨r, h2, h3, H⟩ := resK_out (l := l) h1
    refine ⟨_, h2, congrArg (· + 1) h3, fun {w F μ tmps} hH hsl => ?_⟩
    obtain ⟨us, e1, e2, e3⟩ := H hH hsl
    refine ⟨tmps.getD t undef :: us, by simp [List.mapM_cons, resSem, e1], congrArg (· + 1) e2, fun i u e => ?_⟩
    cases i with
    | zero => cases e; exact hsl t
    | succ i => exact e3 i u e
  | .cell t ty :: l, k, h => by
    obtain ⟨h1, _, _⟩ := mkRd_out hR (d := 0) (s := look C .e t) (sk := .lf) (fr := fr) (k := fun p => must (known C.P ty) (loadK C.M (isAgg C.P ty) (szOf C.P ty) p hp fun v => resK C l fr hp fun r => k (.nd v .lf r))) h
    obtain ⟨hk, h2⟩ := must_out hR h1
    have hptr : ∀ {w : World} {F : Nat → Prop} {μ : Mu} {u : Value}, CRel w F μ (sv 0 (look C .e t) .lf fr) u → ∃ ad, u = .pointer (some ad) := by
      rcases onPtr_out hR h2 with ⟨b, o, e, _⟩ | ⟨tt, o, n, z, e, _⟩
      · intro w F μ u hu
        rw [e] at hu
        obtain ⟨m, _, rfl⟩ := inv_ptr hu
        exact ⟨_, rfl⟩
      · intro w F μ u hu
        rw [e] at hu
        cases hu; exact ⟨_, rfl⟩
    obtain ⟨v, h3, _, hrd⟩ := loadK_out (V := C.env vs) ok hR (known_out hk) h2
    obtain ⟨r, h4, h5, H⟩ := resK_out (l := l) h3
    refine ⟨_, h4, congrArg (· + 1) h5, fun {w F μ tmps} hH hsl => ?_⟩
    obtain ⟨us, e1, e2, e3⟩ := H hH hsl
    obtain ⟨x, q1, q2⟩ := hrd (hsl t) (hH.read _)
    obtain ⟨ad, had⟩ := hptr (hsl t)
    rw [had] at q1
    have hload : (resSem tmps (.cell t ty)).run C.P w = .ok x w := by
      rw [Instr.loadAt, Sem.run_bind, run_sure] at q1
      have q1' : (loadVar ty ad).run C.P w = .ok x w := q1
      simp [resSem, had, asAddr, q1']
    refine ⟨x :: us, by simp [List.mapM_cons, hload, e1], congrArg (· + 1) e2, fun i u e => ?_⟩
    cases i with
    | zero => cases e; exact q2
    | succ i => exact e3 i u e
omit ok hR in
theorem results_run {P : Program} {fn : Func} {tmps : Array Value} {w : World} {us : List Value} (h : (fn.results.toList.mapM (resSem tmps)).run P w = .ok us w) : (results fn tmps).run P w = .ok (if h : us.toArray.size = 1 then us.toArray[0] else .tuple us.toArray) w := by
  have e : (fn.results.mapM (resSem tmps)).run P w = .ok us.toArray w := by
    rw [Array.mapM_eq_mapM_toList]
    simp [h]
  have e2 : results fn tmps = (do let vs ← fn.results.mapM (resSem tmps); pure (if h : vs.size = 1 then vs[0] else .tuple vs)) := by
    unfold results resSem
    congr 1
  rw [e2, Sem.run_bind, e]
  rfl
/-- The end of a function. -/
theorem endF_out {l : List ResultVar} {fr : Fr} {hp : Hp} (h : endF C l fr hp = R) : ∃ v, R = .val v hp ∧ ∀ {fn : Func} {w : World} {F : Nat → Prop} {μ : Mu} {tmps : Array Value}, fn.results.toList = l → HRel (C.env vs) μ F hp w → (∀ t, CRel w F μ (sig C .e .lf fr t) (tmps.getD t undef)) → ∃ x, (results fn tmps).run C.P w = .ok x w ∧ CRel w F μ v x := by
  unfold endF at h
  obtain ⟨r, h1, h2, H⟩ := resK_out (vs := vs) ok hR h
  have many : (∀ x, l ≠ [x]) → Res.val (.tup r l.length) hp = R → ∃ v, R = .val v hp ∧ ∀ {fn : Func} {w : World} {F : Nat → Prop} {μ : Mu} {tmps : Array Value}, fn.results.toList = l → HRel (C.env vs) μ F hp w → (∀ t, CRel w F μ (sig C .e .lf fr t) (tmps.getD t undef)) → ∃ x, (results fn tmps).run C.P w = .ok x w ∧ CRel w F μ v x := fun hne e => by
    refine ⟨_, e.symm, fun {fn w F μ tmps} hfn hH hsl => ?_⟩
    obtain ⟨us, e1, e2, e3⟩ := H hH hsl
    have hsz : us.toArray.size ≠ 1 := fun q => by
      rw [List.size_toArray, e2] at q
      obtain ⟨x, hx⟩ := List.length_eq_one_iff.1 q
      exact hne x hx
    refine ⟨.tuple us.toArray, ?_, .tup (fun i => us.toArray[i]?.getD undef) (by rw [List.size_toArray, h2, e2]) (fun i hi => by rw [Array.getElem?_eq_getElem hi]; rfl) fun i hi => ?_⟩
    · rw [results_run (by rw [hfn]; exact e1), dif_neg hsz]
    · have hi' : i < us.length := by simpa using hi
      refine e3 i _ ?_
      rw [List.getElem?_toArray, List.getElem?_eq_getElem hi']; rfl
  cases l with
  | nil => exact many (fun x => by simp) h1
  | cons x l =>
    cases l with
    | nil =>
      cases r with
      | lf => exact fail_out hR h1
      | nd v a r' =>
        refine ⟨v, h1.symm, fun {fn w F μ tmps} hfn hH hsl => ?_⟩
        obtain ⟨us, e1, e2, e3⟩ := H hH hsl
        obtain ⟨u, rfl⟩ := List.length_eq_one_iff.1 e2
        refine ⟨u, ?_, e3 0 u rfl⟩
        rw [results_run (by rw [hfn]; exact e1), dif_pos (by simp)]
        rfl
    | cons y l => exact many (fun x => by simp) h1
end
/-- The world changes where the heap does not look. -/
theorem HRel.other {V : Env} {μ : Mu} {F : Nat → Prop} {h : Hp} {w w' : World} (H : HRel V μ F h w) {r : Nat} (hsz : w'.heap.size = w.heap.size) (hk : ∀ X, X ≠ r → w'.heap[X]? = w.heap[X]?) (hw : ¬ WB h μ r) (hF : ¬ F r) : HRel V μ F h w' := by
  have same : ∀ B, F B → w'.heap[B]? = w.heap[B]? := fun B hB => hk B fun e => hF (e ▸ hB)
  refine ⟨fun b => ?_, H.excl, fun b m hm => by rw [hsz]; exact H.dom b m hm, fun B hB => by rw [hsz]; exact H.imm B hB⟩
  have hb := H.blk b
  cases hX : h.at b with
  | dead => exact trivial
  | fwd i => rw [hX] at hb; exact hb.elim
  | row rw fl z s t =>
    rw [hX] at hb
    obtain ⟨m, c, T, fz, p1, p2, p3, p4, p5, p6, p7⟩ := hb
    have hne : m.blk ≠ r := fun e => by
      cases rw with
      | true => exact hw ⟨b, m, by rw [hX]; exact rfl, p1, e⟩
      | false => exact hF (e ▸ p7 rfl)
    exact ⟨m, c, T, fz, p1, (hk _ hne).trans p2, p3, fun i hi => let ⟨u, u1, u2, u3⟩ := p4 i hi; ⟨u, u1, u2, u3.mono same (fun _ h => h) (fun _ _ h => h)⟩, p5, p6, p7⟩
  | map n t =>
    rw [hX] at hb
    obtain ⟨m, es, clk, p1, p2, p3, p4, p5⟩ := hb
    have hne : m.blk ≠ r := fun e => hw ⟨b, m, by rw [hX]; exact trivial, p1, e⟩
    exact ⟨m, es, clk, p1, (hk _ hne).trans p2, p3, p4, fun i hi => let ⟨u, u1, u2, u3⟩ := p5 i hi; ⟨u, u1, u2.mono same (fun _ h => h) (fun _ _ h => h), u3.mono same (fun _ h => h) (fun _ _ h => h)⟩⟩
  | loop st f i fr =>
    rw [hX] at hb
    obtain ⟨m, L, p1, p2, p3, p4⟩ := hb
    have hne : m.blk ≠ r := fun e => hw ⟨b, m, by rw [hX]; exact trivial, p1, e⟩
    exact ⟨m, L, p1, (hk _ hne).trans p2, p3, p4.mono same (fun _ h => h) (fun _ _ h => h)⟩
/-- The marks at a function's end. -/
theorem leaves_marks {V : Env} {n : Nat} {fn : Func} {tmps : Array Value} {Rp : Ending → World → Prop} {s0 : Nat} {μ μ0 : Mu} {F F0 : Nat → Prop} {hp h0 : Hp} {w0 wI : World}
    (hfin : ∀ w, HRel V μ F hp w → ExtC μ0 F0 h0 w0 μ F hp w → (∀ B, F B → w.heap[B]? = wI.heap[B]?) → ∃ x, (results fn tmps).run V.P w = .ok x w ∧ Rp (.returned x) w) (hs : w0.heap.size ≤ s0) : ∀ (ds : List Deferred) (w : World), HRel V μ F hp w → ExtC μ0 F0 h0 w0 μ F hp w → (∀ B, F B → w.heap[B]? = wI.heap[B]?) → Marks s0 hp μ F w ds → LeavesInM (Wf none) n V.P fn tmps Rp ds .returning w
  | [], w, H, E, hI, _ => by
    obtain ⟨x, h1, h2⟩ := hfin w H E hI
    exact ⟨x, h1, h2⟩
  | d :: ds, w, H, E, hI, ⟨⟨r, h1, h2, h3, h4, h5, h6, h7⟩, hr⟩ => by
    let w' : World := { w with heap := w.heap.setIfInBounds r (.deferred none) }
    have hne : ∀ X, X ≠ r → w'.heap[X]? = w.heap[X]? := fun X hX => by
      show (w.heap.setIfInBounds r (.deferred none))[X]? = _
      rw [Array.getElem?_setIfInBounds, if_neg (Ne.symm hX)]
    have hsz : w'.heap.size = w.heap.size := by show (w.heap.setIfInBounds r _).size = _; simp
    have H' : HRel V μ F hp w' := H.other hsz hne h5 h6
    have E' : ExtC μ0 F0 h0 w0 μ F hp w' := by
      refine ⟨⟨E.ext.mu, E.ext.fr, by rw [hsz]; exact E.ext.size, fun B hB ho => (hne B (by omega)).trans (E.ext.keep B hB ho), E.ext.own, E.ext.wb, E.ext.newF, E.ext.newMu, E.ext.nx, E.ext.pr, E.ext.rb, E.ext.io⟩, E.ids⟩
    have M' : Marks s0 hp μ F w' ds := by
      clear hfin
      revert hr h7
      induction ds with
      | nil => exact fun _ _ => trivial
      | cons d' ds ih =>
        intro h7 ⟨⟨r', q1, q2, q3, q4, q5, q6, q7⟩, hr'⟩
        have hne' : r' ≠ r := fun e => h7 d' (List.mem_cons_self ..) (e ▸ q1)
        exact ⟨⟨r', q1, q2, by rw [hsz]; exact q3, (hne r' hne').trans q4, q5, q6, q7⟩, ih (fun d'' hd => h7 d'' (List.mem_cons_of_mem _ hd)) hr'⟩
    refine ⟨by simp, .inl ⟨r, w', h1, ?_, leaves_marks hfin hs ds w' H' E' (fun B hB => (hne B fun e => h6 (e ▸ hB)).trans (hI B hB)) M'⟩⟩
    simp [Instr.takeDeferred, getObj, setObj, Sem.run, h4, w']
end Go.Proofs.YtkgnabjcogmobaaGreat.Ev

/- Functions. -/
namespace Go.Proofs.YtkgnabjcogmobaaGreat.Ev
/-- Arguments. -/
def Args (w : World) (F : Nat → Prop) (μ : Mu) (l : Row) (args : Array Value) : Prop := len l = args.size ∧ ∀ i u, args[i]? = some u → CRel w F μ (nth l i) u
/-- A function that can be called. -/
def Can (P : Program) (f : FuncId) : Prop := ∃ fn, P.funcs[f]? = some fn ∧ fn.body.isNone = false ∧ (fn.name == "runtime.NumGoroutine") = false
/-- What is said of a function's evaluator. -/
def FnOk (V : Env) (f : FuncId) (G : FnS) : Prop := ∀ (l : Row) (hp : Hp) (R : Res), G.f l hp = R → R ≠ .fail → Can V.P f ∧ ∃ v hp', R = .val v hp' ∧
  ∀ (w : World) (μ : Mu) (F : Nat → Prop) (args : Array Value) (n : Nat), HRel V μ F hp w → Args w F μ l args → CallsIn (Wf none) n V.P f args w fun e w' => ∃ x, e = .returned x ∧ ∃ μ' F', CRel w' F' μ' v x ∧ HRel V μ' F' hp' w' ∧ ExtC μ F hp w μ' F' hp' w'
theorem fewRF_out {c : Code} (h : fewRF c = true) : (rfIn c).length ≤ 1 := by
  unfold fewRF at h
  revert h
  generalize rfIn c = l
  intro h
  cases l with
  | nil => exact Nat.zero_le _
  | cons x r =>
    cases r with
    | nil => exact Nat.le_refl _
    | cons y r => exact Bool.noConfusion h
theorem noRF_out {c : Code} (h : noRF c = true) : rfIn c = [] := by
  unfold noRF at h
  revert h
  generalize rfIn c = l
  intro h
  cases l with
  | nil => rfl
  | cons x r => exact Bool.noConfusion h
theorem fnS_ok' {C : Cx} {vs : Nat → List Nat} (X : CxOk C vs) (hname : ∀ fn, C.P.funcs[C.self]? = some fn → (fn.name == "runtime.NumGoroutine") = false)
    (hrf : ∀ fn c n, C.P.funcs[C.self]? = some fn → fn.body = some c → (rfIn c).length ≤ 1 → ∀ x ∈ rfIn c, RunOk C vs none n (.rangeFunc x.1 x.2.1 x.2.2.1 x.2.2.2)) : FnOk (C.env vs) C.self (fnS C) := by
  intro l hp R h hR
  unfold fnS at h
  split at h
  · exact fail_out hR h
  · rename_i fn hfn
    rw [getO_eq, Array.getElem?_toList] at hfn
    split at h
    · exact fail_out hR h
    · rename_i c hbody
      have h0 : (Bool.rec (motive := fun _ => FnS) noFn (Bool.rec (motive := fun _ => FnS) noFn ⟨fun l hp => must (Nat.beq (lenR l) (fn.params.size + fn.nfree)) (fillK 0 l (blank C.vars.length) fun fr =>
        Res.rec (motive := fun _ => Res) (fun fr hp => endF C fn.results.toList fr hp) (fun _ _ _ => .fail) (fun fr hp => endF C fn.results.toList fr hp) (fun _ _ => .fail) .fail (((den C c).run .e (fun _ => okS) [] rtS).run .lf fr hp))⟩ (headVars (fn.params.size + fn.nfree) C.vars)) (band (fewRF c) (Nat.ble C.nt fn.ntmps)) : FnS).f l hp = R := h
      cases hnt : band (fewRF c) (Nat.ble C.nt fn.ntmps) with
      | false => rw [hnt] at h0; exact fail_out hR h0
      | true =>
        rw [hnt] at h0
        rw [band_eq, bleN] at hnt
        obtain ⟨hfew, hnt⟩ := hnt
        cases hhv : headVars (fn.params.size + fn.nfree) C.vars with
        | false => rw [hhv] at h0; exact fail_out hR h0
        | true =>
          rw [hhv] at h0
          have hvars := headVars_out hhv
          obtain ⟨hlen, h1⟩ := must_out hR h0
          rw [beqN, lenR_eq] at hlen
          obtain ⟨fr0, h2, hfr⟩ := fillK_out hR h1
          generalize hRb : ((den C c).run .e (fun _ => okS) [] rtS).run .lf fr0 hp = Rb at h2
          have hRb0 : Rb ≠ .fail := fun e => by rw [e] at h2; exact hR h2.symm
          refine ⟨⟨fn, hfn, by rw [hbody]; rfl, hname fn hfn⟩, ?_⟩
          -- the end: with whatever frame and heap it is come to
          have hend : ∃ fr' hp', (Rb = .ok fr' hp' ∨ Rb = .ret fr' hp') ∧ endF C fn.results.toList fr' hp' = R := by
            cases Rb with
            | ok fr' hp' => exact ⟨fr', hp', .inl rfl, h2⟩
            | ret fr' hp' => exact ⟨fr', hp', .inr rfl, h2⟩
            | _ => exact fail_out hR h2
          obtain ⟨fr', hp', hor, h3⟩ := hend
          obtain ⟨v, h4, H⟩ := endF_out (vs := vs) X.ok hR h3
          refine ⟨v, hp', h4, fun w μ F args n hH ha => ?_⟩
          refine callsIn_of_wp_marks (c := c) hfn hbody trivial ?_ rfl
          have hSt : St C (C.env vs) w.heap.size .e .lf fr0 hp μ F { tmps := args ++ Array.replicate (fn.ntmps - args.size) undef, defers := [] } w := by
            refine ⟨GInv.e, fun t => ?_, hH, ?_, trivial⟩
            · show CRel w F μ (sv 0 (look C .e t) .lf fr0) _
              have e : look C .e t = idxOf t C.vars 0 := rfl
              rw [e]
              rcases idxOf_f (l := C.vars) (t := t) (i := 0) with ⟨j, hj⟩ | hj
              · rw [hj]
                show CRel w F μ (fr0.at j) _
                rw [hfr j]
                by_cases hjl : 0 ≤ j ∧ j < 0 + len l
                · rw [if_pos hjl, Nat.sub_zero]
                  have ht : t = j := idxOf_inj hj (hvars j (by omega))
                  subst ht
                  have hlt : t < args.size := by have := ha.1; omega
                  have : (args ++ Array.replicate (fn.ntmps - args.size) undef).getD t undef = args[t] := by
                    rw [Array.getD_eq_getD_getElem?, Array.getElem?_append_left hlt, Array.getElem?_eq_getElem hlt]; rfl
                  rw [this]
                  exact ha.2 t _ (Array.getElem?_eq_getElem hlt)
                · rw [if_neg hjl, blank_at]; exact .undef _
              · rw [hj]; exact .undef _
            · show C.nt ≤ (args ++ Array.replicate (fn.ntmps - args.size) undef).size
              simp only [Array.size_append, Array.size_replicate]
              omega
          have fin : ∀ (fr2 : Fr) (hp2 : Hp) (a' : Act) (w' : World), (Rb = .ok fr2 hp2 ∨ Rb = .ret fr2 hp2) → At C vs w.heap.size μ F hp w .e .lf fr2 hp2 a' w' →
              LeavesInM (Wf none) n C.P fn a'.tmps (fun e w' => ∃ x, e = .returned x ∧ ∃ μ' F', CRel w' F' μ' v x ∧ HRel (C.env vs) μ' F' hp' w' ∧ ExtC μ F hp w μ' F' hp' w') a'.defers .returning w' := fun fr2 hp2 a' w' hor2 ⟨μ', F', S', E'⟩ => by
            have hsame : fr2 = fr' ∧ hp2 = hp' := by
              rcases hor with e | e <;> rcases hor2 with e2 | e2 <;> rw [e] at e2 <;> cases e2 <;> exact ⟨rfl, rfl⟩
            obtain ⟨rfl, rfl⟩ := hsame
            refine leaves_marks (V := C.env vs) (μ := μ') (F := F') (hp := hp2) (μ0 := μ) (F0 := F) (h0 := hp) (w0 := w) (wI := w') (fun w2 H2 E2 hI => ?_) (Nat.le_refl _) a'.defers w' S'.h E' (fun _ _ => rfl) S'.df
            obtain ⟨x, q1, q2⟩ := H (fn := fn) (tmps := a'.tmps) rfl H2 fun t => (S'.sl t).mono hI (fun _ h => h) (fun _ _ h => h)
            exact ⟨x, q1, x, rfl, μ', F', q2, H2, E2⟩
          refine (runOk X c (hrf fn c n hfn hbody (fewRF_out hfew))).1 hRb0 hRb ⟨μ, F, hSt, ExtC.refl _ _ _ _⟩ (fun g2 sk2 fr2 hp2 a' w' e S' => fin fr2 hp2 a' w' (.inl e.symm) S'.drop) (fun id fr2 hp2 a' w' e _ => absurd e.symm (by exact fun q => hRb0 q)) (fun l fr2 hp2 a' w' e _ => absurd e.symm (by exact fun q => hRb0 q)) (fun fr2 hp2 a' w' e S' => fin fr2 hp2 a' w' (.inr e.symm) S')
end Go.Proofs.YtkgnabjcogmobaaGreat.Ev

/- Values freed of the heap. -/
namespace Go.Proofs.YtkgnabjcogmobaaGreat.Ev
/-- What comes of a value: whole, and as an element of several cells. -/
structure Same2 (w : World) (F : Nat → Prop) (μ : Mu) (w' : World) (F' : Nat → Prop) (μ' : Mu) (v v' : AV) : Prop where
  val : ∀ u, CRel w F μ v u → CRel w' F' μ' v' u
  elem : ∀ i u, CRel w F μ (elc v i) u → CRel w' F' μ' (elc v' i) u
theorem elc_undef {v : AV} (h : ∀ l n, v ≠ .agg l n) (i : Nat) : elc v i = .undef := by
  cases v with
  | agg l n => exact absurd rfl (h l n)
  | _ => rfl
theorem Same2.mono {w w' w2 : World} {F F' F2 : Nat → Prop} {μ μ' μ2 : Mu} {v v' : AV} (h : Same2 w F μ w' F' μ' v v') (hw : ∀ B, F' B → w2.heap[B]? = w'.heap[B]?) (hF : ∀ B, F' B → F2 B) (hm : ∀ b m, μ' b = some m → μ2 b = some m) : Same2 w F μ w2 F2 μ2 v v' :=
  ⟨fun u hu => (h.val u hu).mono hw hF hm, fun i u hu => (h.elem i u hu).mono hw hF hm⟩
theorem Same2.pre {w w1 w' : World} {F F1 F' : Nat → Prop} {μ μ1 μ' : Mu} {v v' : AV} (h : Same2 w1 F1 μ1 w' F' μ' v v') (hw : ∀ B, F B → w1.heap[B]? = w.heap[B]?) (hF : ∀ B, F B → F1 B) (hm : ∀ b m, μ b = some m → μ1 b = some m) : Same2 w F μ w' F' μ' v v' :=
  ⟨fun u hu => h.val u (hu.mono hw hF hm), fun i u hu => h.elem i u (hu.mono hw hF hm)⟩
/-- A value that is not an aggregate. -/
theorem Same2.plain {w w' : World} {F F' : Nat → Prop} {μ μ' : Mu} {v v' : AV} (hn : ∀ l n, v' ≠ .agg l n) (h : ∀ u, CRel w F μ v u → CRel w' F' μ' v' u) : Same2 w F μ w' F' μ' v v' :=
  ⟨h, fun i u _ => by rw [elc_undef hn]; exact .undef u⟩
theorem Same2.agg {w w' : World} {F F' : Nat → Prop} {μ μ' : Mu} {l r : Row} {n : Nat} (h : ∀ i u, CRel w F μ (nth l i) u → CRel w' F' μ' (nth r i) u) : Same2 w F μ w' F' μ' (.agg l n) (.agg r n) :=
  ⟨fun u hu => by
    cases hu with
    | agg us h1 h2 h3 h4 => exact .agg us h1 h2 h3 fun i hi => h i _ (h4 i hi), h⟩
theorem Same2.tup {w w' : World} {F F' : Nat → Prop} {μ μ' : Mu} {l r : Row} {n : Nat} (hl : len r = len l) (h : ∀ i u, CRel w F μ (nth l i) u → CRel w' F' μ' (nth r i) u) : Same2 w F μ w' F' μ' (.tup l n) (.tup r n) :=
  .plain (fun _ _ => by simp) fun u hu => by
    cases hu with
    | tup us h1 h2 h3 => exact .tup us (hl.trans h1) h2 fun i hi => h i _ (h3 i hi)
theorem Same2.fn {w w' : World} {F F' : Nat → Prop} {μ μ' : Mu} {l r : Row} {f n m : Nat} (hl : len r = len l) (h : ∀ i u, CRel w F μ (nth l i) u → CRel w' F' μ' (nth r i) u) : Same2 w F μ w' F' μ' (.x 3 l f n m) (.x 3 r f n m) :=
  .plain (fun _ _ => by simp) fun u hu => by
    cases hu with
    | fn us h1 h2 h3 h4 h5 h6 => exact .fn us h1 h2 (hl.trans h3) h4 h5 fun i hi => h i _ (h6 i hi)
theorem Same2.iface {w w' : World} {F F' : Nat → Prop} {μ μ' : Mu} {l r : Row} {a b c : Nat} (h : ∀ i u, CRel w F μ (nth l i) u → CRel w' F' μ' (nth r i) u) : Same2 w F μ w' F' μ' (.x 12 l a b c) (.x 12 r a b c) :=
  .plain (fun _ _ => by simp) fun u hu => by
    cases hu with
    | iface h1 => exact .iface (h 0 _ h1)
/-- A value that leads to no memory, but what nobody writes. -/
theorem Same2.free {w : World} {F : Nat → Prop} {μ μ' : Mu} {v : AV} (h : v.isFree = true) (hn : ∀ l n, v ≠ .agg l n) : Same2 w F μ w F μ' v v := .plain hn fun _ hu => hu.free h μ'
theorem plain_cells {l : Row} (h : ∀ i, i < len l → (nth l i).isPlain = true) (i : Nat) : (nth l i).isFree = true := by
  by_cases hi : i < len l
  · exact isFree_of_plain (h i hi)
  · rw [nth_ge (by omega)]; rfl
def ZOk (V : Env) (z : ZK) : Prop := ∀ (hp : Hp) (v : AV) (k : AV → Hp → Res) (R : Res), R ≠ .fail → z.f hp v k = R → ∃ v' hp', k v' hp' = R ∧ ∀ (w : World) (F : Nat → Prop) (μ : Mu), HRel V μ F hp w → ∃ F', HRel V μ F' hp' w ∧ Ext μ F hp w μ F' hp' w ∧ Same2 w F μ w F' noMu v v'
section
variable {V : Env} {M : Mem} (ok : MemOk M)
theorem zl_out {z : ZK} (hz : ZOk V z) {R : Res} (hR : R ≠ .fail) : ∀ {l : Row} {hp : Hp} {k : Row → Hp → Res}, zl z l hp k = R → ∃ r hp', k r hp' = R ∧ len r = len l ∧ ∀ (w : World) (F : Nat → Prop) (μ : Mu), HRel V μ F hp w → ∃ F', HRel V μ F' hp' w ∧ Ext μ F hp w μ F' hp' w ∧ ∀ i u, CRel w F μ (nth l i) u → CRel w F' noMu (nth r i) u
  | .lf, hp, k, h => ⟨.lf, hp, h, rfl, fun w F μ H => ⟨F, H, Ext.refl _ _ _ _, fun i u _ => by cases i <;> exact .undef u⟩⟩
  | .nd v a l, hp, k, h => by
    obtain ⟨v', h1, g1, H1⟩ := hz hp v (fun v hp => zl z l hp fun r hp => k (.nd v .lf r) hp) R hR h
    obtain ⟨r, h2, g2, hl, H2⟩ := zl_out hz hR g1
    refine ⟨_, h2, g2, congrArg (· + 1) hl, fun w F μ H => ?_⟩
    obtain ⟨F1, q1, q2, q3⟩ := H1 w F μ H
    obtain ⟨F2, p1, p2, p3⟩ := H2 w F1 μ q1
    refine ⟨F2, p1, q2.trans p2, fun i u hu => ?_⟩
    cases i with
    | zero => exact (q3.val u hu).mono (fun _ _ => rfl) p2.fr (fun _ _ h => h)
    | succ i => exact p3 i u (hu.mono (fun _ _ => rfl) q2.fr (fun _ _ h => h))
include ok
theorem zr_out {z : ZK} (hz : ZOk V z) {R : Res} (hR : R ≠ .fail) (n : Nat) : ∀ {hp : Hp} {t : Row} {o : Nat} {d : Row} {p : Nat} {k : Row → Hp → Res}, (zr M z n).f hp t o d p k = R → ∃ d' hp', k d' hp' = R ∧ (∀ j, ¬ (p ≤ j ∧ j < p + n) → d'.at j = d.at j) ∧
    ∀ (w : World) (F : Nat → Prop) (μ : Mu), HRel V μ F hp w → ∃ F', HRel V μ F' hp' w ∧ Ext μ F hp w μ F' hp' w ∧ ∀ j, j < n → Same2 w F μ w F' noMu (t.at (o + j)) (d'.at (p + j)) := by
  induction n with
  | zero => intro hp t o d p k h; exact ⟨d, hp, h, fun _ _ => rfl, fun w F μ H => ⟨F, H, Ext.refl _ _ _ _, fun j hj => absurd hj (Nat.not_lt_zero _)⟩⟩
  | succ n ih =>
    intro hp t o d p k h
    have g1 := ok.rg hR (show M.rg.f t o (fun a => z.f hp a fun a hp => M.rs.f d p a fun d => (zr M z n).f hp t (Nat.succ o) d (Nat.succ p) k) = R from h)
    obtain ⟨a', h1, g2, H1⟩ := hz hp (t.at o) (fun a hp => M.rs.f d p a fun d => (zr M z n).f hp t (Nat.succ o) d (Nat.succ p) k) R hR g1
    obtain ⟨d1, hd1, g3⟩ := ok.rs hR g2
    have hd1 : ∀ j, d1.at j = if j = p then a' else d.at j := fun j => hd1 j
    obtain ⟨d', h2, g4, hd, H2⟩ := ih g3
    refine ⟨d', h2, g4, fun j hj => ?_, fun w F μ H => ?_⟩
    · rw [hd j (by omega), hd1, if_neg (by omega)]
    · obtain ⟨F1, q1, q2, q3⟩ := H1 w F μ H
      obtain ⟨F2, p1, p2, p3⟩ := H2 w F1 μ q1
      refine ⟨F2, p1, q2.trans p2, fun j hj => ?_⟩
      cases j with
      | zero =>
        have e : d'.at (p + 0) = a' := by rw [hd (p + 0) (by omega), hd1, if_pos (Nat.add_zero p)]
        rw [e]
        exact q3.mono (fun _ _ => rfl) p2.fr (fun _ _ h => h)
      | succ j =>
        have := p3 j (by omega)
        rw [show Nat.succ o + j = o + (j + 1) by omega, show Nat.succ p + j = p + (j + 1) by omega] at this
        exact this.pre (fun _ _ => rfl) q2.fr (fun _ _ h => h)
theorem frzS_ok {z : ZK} (hz : ZOk V z) : ZOk V (frzS M z) := by
  intro hp v k R hR h
  have same : ∀ {v : AV}, v.isFree = true → (∀ l n, v ≠ .agg l n) → k v hp = R → ∃ v' hp', k v' hp' = R ∧ ∀ (w : World) (F : Nat → Prop) (μ : Mu), HRel V μ F hp w → ∃ F', HRel V μ F' hp' w ∧ Ext μ F hp w μ F' hp' w ∧ Same2 w F μ w F' noMu v v' := fun {v} hf hn g =>
    ⟨v, hp, g, fun w F μ H => ⟨F, H, Ext.refl _ _ _ _, Same2.free hf hn⟩⟩
  have lists : ∀ {l : Row} {q : Row → AV}, (∀ {w : World} {F F' : Nat → Prop} {μ : Mu} {r : Row}, len r = len l → (∀ i u, CRel w F μ (nth l i) u → CRel w F' noMu (nth r i) u) → Same2 w F μ w F' noMu v (q r)) → zl z l hp (fun r hp => k (q r) hp) = R → ∃ v' hp', k v' hp' = R ∧ ∀ (w : World) (F : Nat → Prop) (μ : Mu), HRel V μ F hp w → ∃ F', HRel V μ F' hp' w ∧ Ext μ F hp w μ F' hp' w ∧ Same2 w F μ w F' noMu v v' := fun {l q} hq g => by
    obtain ⟨r, hp', g2, hl, H⟩ := zl_out hz hR g
    exact ⟨_, hp', g2, fun w F μ h => let ⟨F', q1, q2, q3⟩ := H w F μ h; ⟨F', q1, q2, hq hl q3⟩⟩
  cases v with
  | int => exact same rfl (fun _ _ => by simp) h
  | bool => exact same rfl (fun _ _ => by simp) h
  | str => exact same rfl (fun _ _ => by simp) h
  | ptr => exact fail_out hR h
  | ms b o n y =>
    obtain ⟨rw', fl, x, s, t, hB, hs, g1⟩ := huse_out ok hR (show hp.use M b (Nat.add o (Nat.mul n y)) (fun _ fl x s t => must (Nat.beq x y) (must (Nat.beq (Nat.mod o y) 0) (hp.put M b (.row false fl y s t) fun hp => when fl (forceN (Nat.div o y) fun e => k (.vs t e n y) hp) ((zr M z n).f hp t (Nat.div o y) .lf 0 fun r hp => k (.vs r 0 n y) hp)))) = R from h)
    obtain ⟨hx, g2⟩ := must_out hR g1
    rw [beqN] at hx; subst hx
    obtain ⟨ho, g3⟩ := must_out hR g2
    rw [beqN] at ho
    have ho : o % x = 0 := ho
    have hs : o + n * x ≤ s := hs
    have hox : o / x * x = o := Nat.div_mul_cancel (Nat.dvd_of_mod_eq_zero ho)
    obtain ⟨h1, hset, _, g4⟩ := hput_out ok hR g3
    -- the value, out of its cells
    have fin : ∀ {w : World} {F F' : Nat → Prop} {μ : Mu} {t' : Row} {e : Nat}, HRel V μ F hp w → (∀ m, μ b = some m → F' m.blk) → (∀ i, i < n * x → ∀ u, CRel w F μ (cellAt x t (o + i)) u → CRel w F' noMu (cellAt x t' (e * x + i)) u) → Same2 w F μ w F' noMu (.ms b o n x) (.vs t' e n x) := fun {w F F' μ t' e} H hF hcell =>
      .plain (fun _ _ => by simp) fun u hu => by
        cases hu with
        | ms0 => exact .vs0
        | @ms _ _ _ _ _ c m hm hc hcs =>
          have hbr := H.blk b
          rw [hB] at hbr
          obtain ⟨us, hus⟩ := pick_fn (fun i (hi : i < n * x) => hbr.cells hm (o + i) (by omega))
          exact .vs us (hF m hm) hc (fun i hi => by have := (hus i hi).1; rw [← Nat.add_assoc] at this; exact this) (fun i hi => (hus i hi).2.1) fun i hi => hcell i hi _ (hus i hi).2.2
    have place : ∀ {w : World} {F : Nat → Prop} {μ : Mu}, HRel V μ F hp w → ∃ m, μ b = some m := fun H => (ofRow H hB).1
    rcases when_out hR g4 with ⟨hfl, g5⟩ | ⟨_, g5⟩
    · rw [forceN_eq] at g5
      refine ⟨_, h1, g5, fun w F μ H => ?_⟩
      obtain ⟨m, hm⟩ := place H
      obtain ⟨q1, q2⟩ := H.mark hB hm (fun h => h) hset
      refine ⟨_, q1, q2, fin H (fun m' hm' => by rw [hm] at hm'; cases hm'; exact .inr rfl) fun i hi u hu => ?_⟩
      have hfree := (ofRow H hB).2 hfl (o + i) (by omega)
      have e : Nat.div o x * x + i = o + i := by show o / x * x + i = _; rw [hox]
      rw [e]
      exact (hu.free hfree noMu).mono (fun _ _ => rfl) (fun _ h => .inl h) (fun _ _ h => h)
    · obtain ⟨d', h2, g6, _, H2⟩ := zr_out ok hz hR n g5
      refine ⟨_, h2, g6, fun w F μ H => ?_⟩
      obtain ⟨m, hm⟩ := place H
      obtain ⟨q1, q2⟩ := H.mark hB hm (fun h => h) hset
      obtain ⟨F2, p1, p2, p3⟩ := H2 w _ μ q1
      refine ⟨F2, p1, q2.trans p2, fin H (fun m' hm' => by rw [hm] at hm'; cases hm'; exact p2.fr _ (.inr rfl)) fun i hi u hu => ?_⟩
      have hx0 : 0 < x := Nat.pos_of_ne_zero fun e => by subst e; omega
      have hu' : CRel w (fun B => F B ∨ B = m.blk) μ (cellAt x t (o + i)) u := hu.mono (fun _ _ => rfl) (fun _ h => .inl h) (fun _ _ h => h)
      rw [Nat.zero_mul, Nat.zero_add]
      have hlt : i / x < n := (Nat.div_lt_iff_lt_mul hx0).2 hi
      have hp3 := p3 (i / x) hlt
      rw [Nat.zero_add] at hp3
      by_cases e1 : x = 1
      · subst e1
        rw [cellAt, if_pos rfl] at hu' ⊢
        rw [Nat.div_one] at hp3
        have e : Nat.div o 1 + i = o + i := by show o / 1 + i = _; rw [Nat.div_one]
        rw [e] at hp3
        exact hp3.val u hu'
      · rw [cellAt, if_neg e1] at hu' ⊢
        have e2 : (o + i) / x = Nat.div o x + i / x := by
          show _ = o / x + i / x
          rw [← hox, Nat.mul_comm, Nat.mul_add_div hx0, Nat.mul_div_cancel_left _ hx0]
        have e3 : (o + i) % x = i % x := by rw [← hox, Nat.mul_comm, Nat.mul_add_mod]
        rw [e2, e3] at hu'
        exact hp3.elem _ u hu'
  | vs t o n z' => exact ⟨_, hp, h, fun w F μ H => ⟨F, H, Ext.refl _ _ _ _, .plain (fun _ _ => by simp) fun u hu => by
      cases hu with
      | vs us hF hc h1 h2 h3 => exact .vs us hF hc h1 h2 h3
      | vs0 => exact .vs0⟩⟩
  | agg l n =>
    obtain ⟨p, hp1, g1⟩ := lplain_out (show lplain l (fun p => when p (k (.agg l n) hp) (zl z l hp fun r hp => k (.agg r n) hp)) = R from h)
    rcases when_out hR g1 with ⟨e, g2⟩ | ⟨_, g2⟩
    · exact ⟨_, hp, g2, fun w F μ H => ⟨F, H, Ext.refl _ _ _ _, .agg fun i u hu => hu.free (plain_cells (hp1 e) i) noMu⟩⟩
    · exact lists (q := fun r => .agg r n) (fun _ h => .agg h) g2
  | tup t n => exact lists (q := fun r => .tup r n) (fun hl h => .tup hl h) h
  | x gg t a b c =>
    have h' : when (Nat.ble 6 gg) (when (Nat.beq gg 12) (zl z t hp fun r hp => k (.x gg r a b c) hp) (k (.x gg t a b c) hp)) (when (Nat.beq gg 1) (k (.x gg t a b c) hp) (must (Nat.beq gg 3) (zl z t hp fun r hp => k (.x gg r a b c) hp))) = R := h
    rcases when_out hR h' with ⟨e6, g1⟩ | ⟨_, g1⟩
    · rw [bleN] at e6
      rcases when_out hR g1 with ⟨e, g2⟩ | ⟨e, g2⟩
      · rw [beqN] at e; subst e
        exact lists (q := fun r => .x 12 r a b c) (fun _ h => .iface h) g2
      · have hne : gg ≠ 12 := fun q => by rw [q] at e; cases e
        refine ⟨_, hp, g2, fun w F μ H => ⟨F, H, Ext.refl _ _ _ _, .plain (fun _ _ => by simp) fun u hu => ?_⟩⟩
        cases hu with
        | iface => exact absurd rfl hne
        | emp => exact .emp
        | nilp => exact .nilp
        | nils => exact .nils
        | nilf => exact .nilf
        | nilm => exact .nilm
        | nili => exact .nili
        | undef => omega
        | vptr => omega
        | fn => omega
        | map => omega
        | yld => omega
    · rcases when_out hR g1 with ⟨e, g2⟩ | ⟨_, g2⟩
      · rw [beqN] at e; subst e
        refine ⟨_, hp, g2, fun w F μ H => ⟨F, H, Ext.refl _ _ _ _, .plain (fun _ _ => by simp) fun u hu => ?_⟩⟩
        cases hu with
        | vptr us hF hu h1 h2 => exact .vptr us hF hu h1 h2
      · obtain ⟨e, g3⟩ := must_out hR g2
        rw [beqN] at e; subst e
        exact lists (q := fun r => .x 3 r a b c) (fun hl h => .fn hl h) g3
theorem frz_ok (n : Nat) : ZOk V (frz M n) := by
  induction n with
  | zero => exact fun _ _ _ _ hR h => fail_out hR h
  | succ n ih => exact frzS_ok ok ih
end
end Go.Proofs.YtkgnabjcogmobaaGreat.Ev

/- Values taken over from another heap. -/
namespace Go.Proofs.YtkgnabjcogmobaaGreat.Ev
theorem CRel.free2 {w : World} {F : Nat → Prop} {μ : Mu} {a : AV} {v : Value} (h : CRel w F μ a v) (hf : a.isFree = true) (w' : World) (F' : Nat → Prop) (μ' : Mu) : CRel w' F' μ' a v := by
  cases h with
  | int h => exact .int h
  | bool b => exact .bool b
  | str => exact .str
  | undef v => exact .undef v
  | nilp => exact .nilp
  | nils => exact .nils
  | nilf => exact .nilf
  | nilm => exact .nilm
  | nili => exact .nili
  | emp => exact .emp
  | _ => exact Bool.noConfusion hf
/-- A call's heap, and the one that takes over. -/
structure ImpE where
  w : World
  μc : Mu
  Fc : Nat → Prop
  Ft : Nat → Prop
  hc : Hp
  hp : Hp
  μ : Mu
  s : Nat
  full : Prop
structure ImpOk (V : Env) (E : ImpE) : Prop where
  hc : HRel V E.μc E.Fc E.hc E.w
  new : ∀ c m, E.μc c = some m → E.s ≤ m.blk
  hp : HRel V E.μ E.Ft E.hp E.w
  old : ∀ b m, E.μ b = some m → m.blk < E.s
  ft : ∀ c m, E.μc c = some m → ¬ E.Fc m.blk → ¬ E.Ft m.blk
  full : E.full → ∀ B, E.Fc B → E.Ft B
structure ImpJ (V : Env) (E : ImpE) (hc hp : Hp) (μ : Mu) : Prop where
  a : HRel V μ E.Ft hp E.w
  b : ∀ b, b < E.hp.nx → hp.at b = E.hp.at b ∧ μ b = E.μ b
  c : ∀ b, E.hp.nx ≤ b → μ b = none ∨ ∃ c, hc.at c = .fwd b ∧ μ b = E.μc c ∧ ((hp.at b).wr → (E.hc.at c).wr)
  d : ∀ c, hc.at c = E.hc.at c ∨ ∃ id m, hc.at c = .fwd id ∧ E.μc c = some m ∧ μ id = some m ∧ E.hp.nx ≤ id
  nx : E.hp.nx ≤ hp.nx
  pr : hp.pr = E.hp.pr
  rb : hp.rb = E.hp.rb
def Le (μ μ' : Mu) : Prop := ∀ b m, μ b = some m → μ' b = some m
/-- A place that is there, under a new number. -/
theorem HRel.adopt {V : Env} {μ : Mu} {F : Nat → Prop} {h h' : Hp} {w : World} (H : HRel V μ F h w) {id : Nat} {B : Blk} {m : Mp} (hid : μ id = none) (s : HSet h id B h') (hn : id < h'.nx) (hm : m.blk < w.heap.size) (hB : BRel V w F (upd μ id m) id B) (hx : B.wr → ∀ b m', (h.at b).wr → μ b = some m' → m'.blk ≠ m.blk) : HRel V (upd μ id m) F h' w := by
  have le := upd_le m hid
  refine ⟨fun b => ?_, fun b b' x x' h1 h2 hne hx1 hx2 => ?_, fun b x hx => ?_, H.imm⟩
  · by_cases e : b = id
    · subst e; rw [s.same]; exact hB
    · rw [s.ne e]
      have hb := H.blk b
      refine hb.keep (fun _ _ => rfl) (fun _ h => h) le (fun _ _ => rfl) (fun _ _ _ h => h)
  · by_cases e : b = id
    · subst e
      rw [s.same] at h1
      rw [upd_self] at hx1; cases hx1
      have e2 : b' ≠ b := Ne.symm hne
      rw [s.ne e2] at h2
      rw [upd_ne μ m e2] at hx2
      exact (hx h1 b' x' h2 hx2).symm
    · rw [s.ne e] at h1
      rw [upd_ne μ m e] at hx1
      by_cases e2 : b' = id
      · subst e2
        rw [s.same] at h2
        rw [upd_self] at hx2; cases hx2
        exact hx h2 b x h1 hx1
      · rw [s.ne e2] at h2
        rw [upd_ne μ m e2] at hx2
        exact H.excl b b' x x' h1 h2 hne hx1 hx2
  · by_cases e : b = id
    · subst e; rw [upd_self] at hx; cases hx; exact ⟨hn, hm⟩
    · rw [upd_ne μ m e] at hx
      obtain ⟨q1, q2⟩ := H.dom b x hx
      exact ⟨Nat.lt_of_lt_of_le q1 s.nx, q2⟩
def IOk (V : Env) (z : IK) : Prop := ∀ (v : AV) (hc hp : Hp) (b : Bool) (k : AV → Hp → Hp → Bool → Res) (R : Res), R ≠ .fail → z.f v hc hp b k = R → ∃ v' hc' hp' b', k v' hc' hp' b' = R ∧ (b = true → b' = true) ∧
  ∀ (E : ImpE), ImpOk V E → (b' = false ∨ E.full) → ∀ μ, ImpJ V E hc hp μ → ∃ μ', ImpJ V E hc' hp' μ' ∧ Le μ μ' ∧ Same2 E.w E.Fc E.μc E.w E.Ft μ' v v'
section
variable {V : Env} {M : Mem} (ok : MemOk M)
theorem orImp {b b' : Bool} {p : Prop} (h : b = true → b' = true) (h' : b' = false ∨ p) : b = false ∨ p := h'.elim (fun e => .inl (by cases b with | false => rfl | true => rw [h rfl] at e; cases e)) .inr
theorem il_out {z : IK} (hz : IOk V z) {R : Res} (hR : R ≠ .fail) : ∀ {l : Row} {hc hp : Hp} {b : Bool} {k : Row → Hp → Hp → Bool → Res}, il z l hc hp b k = R → ∃ r hc' hp' b', k r hc' hp' b' = R ∧ (b = true → b' = true) ∧ len r = len l ∧
    ∀ (E : ImpE), ImpOk V E → (b' = false ∨ E.full) → ∀ μ, ImpJ V E hc hp μ → ∃ μ', ImpJ V E hc' hp' μ' ∧ Le μ μ' ∧ ∀ i u, CRel E.w E.Fc E.μc (nth l i) u → CRel E.w E.Ft μ' (nth r i) u
  | .lf, hc, hp, b, k, h => ⟨.lf, hc, hp, b, h, id, rfl, fun E _ _ μ J => ⟨μ, J, fun _ _ h => h, fun i u _ => by cases i <;> exact .undef u⟩⟩
  | .nd v a l, hc, hp, b, k, h => by
    obtain ⟨v', hc1, hp1, b1, g1, hb1, H1⟩ := hz v hc hp b (fun v hc hp b => il z l hc hp b fun r hc hp b => k (.nd v .lf r) hc hp b) R hR h
    obtain ⟨r, hc2, hp2, b2, g2, hb2, hl, H2⟩ := il_out hz hR g1
    refine ⟨_, hc2, hp2, b2, g2, fun e => hb2 (hb1 e), congrArg (· + 1) hl, fun E ho hor μ J => ?_⟩
    obtain ⟨μ1, J1, l1, s1⟩ := H1 E ho (orImp hb2 hor) μ J
    obtain ⟨μ2, J2, l2, s2⟩ := H2 E ho hor μ1 J1
    refine ⟨μ2, J2, fun x m hx => l2 x m (l1 x m hx), fun i u hu => ?_⟩
    cases i with
    | zero => exact (s1.val u hu).mono (fun _ _ => rfl) (fun _ h => h) l2
    | succ i => exact s2 i u hu
include ok
theorem ir_out {z : IK} (hz : IOk V z) {R : Res} (hR : R ≠ .fail) (n : Nat) : ∀ {t : Row} {o : Nat} {d : Row} {p : Nat} {hc hp : Hp} {b : Bool} {k : Row → Hp → Hp → Bool → Res}, (ir M z n).f t o d p hc hp b k = R → ∃ d' hc' hp' b', k d' hc' hp' b' = R ∧ (b = true → b' = true) ∧ (∀ j, ¬ (p ≤ j ∧ j < p + n) → d'.at j = d.at j) ∧
    ∀ (E : ImpE), ImpOk V E → (b' = false ∨ E.full) → ∀ μ, ImpJ V E hc hp μ → ∃ μ', ImpJ V E hc' hp' μ' ∧ Le μ μ' ∧ ∀ j, j < n → Same2 E.w E.Fc E.μc E.w E.Ft μ' (t.at (o + j)) (d'.at (p + j)) := by
  induction n with
  | zero => intro t o d p hc hp b k h; exact ⟨d, hc, hp, b, h, id, fun _ _ => rfl, fun E _ _ μ J => ⟨μ, J, fun _ _ h => h, fun j hj => absurd hj (Nat.not_lt_zero _)⟩⟩
  | succ n ih =>
    intro t o d p hc hp b k h
    have g1 := ok.rg hR (show M.rg.f t o (fun a => z.f a hc hp b fun a hc hp b => M.rs.f d p a fun d => (ir M z n).f t (Nat.succ o) d (Nat.succ p) hc hp b k) = R from h)
    obtain ⟨a', hc1, hp1, b1, g2, hb1, H1⟩ := hz (t.at o) hc hp b (fun a hc hp b => M.rs.f d p a fun d => (ir M z n).f t (Nat.succ o) d (Nat.succ p) hc hp b k) R hR g1
    obtain ⟨d1, hd1, g3⟩ := ok.rs hR g2
    have hd1 : ∀ j, d1.at j = if j = p then a' else d.at j := fun j => hd1 j
    obtain ⟨d', hc2, hp2, b2, g4, hb2, hd, H2⟩ := ih g3
    refine ⟨d', hc2, hp2, b2, g4, fun e => hb2 (hb1 e), fun j hj => ?_, fun E ho hor μ J => ?_⟩
    · rw [hd j (by omega), hd1, if_neg (by omega)]
    · obtain ⟨μ1, J1, l1, s1⟩ := H1 E ho (orImp hb2 hor) μ J
      obtain ⟨μ2, J2, l2, s2⟩ := H2 E ho hor μ1 J1
      refine ⟨μ2, J2, fun x m hx => l2 x m (l1 x m hx), fun j hj => ?_⟩
      cases j with
      | zero =>
        have e : d'.at (p + 0) = a' := by rw [hd (p + 0) (by omega), hd1, if_pos (Nat.add_zero p)]
        rw [e]
        exact s1.mono (fun _ _ => rfl) (fun _ h => h) l2
      | succ j =>
        have := s2 j (by omega)
        rw [show Nat.succ o + j = o + (j + 1) by omega, show Nat.succ p + j = p + (j + 1) by omega] at this
        exact this
omit ok in
/-- Cells of rows whose elements were taken over. -/
theorem cells_same {w w' : World} {F F' : Nat → Prop} {μ μ' : Mu} {y n : Nat} {t r : Row} (h : ∀ j, j < n → Same2 w F μ w' F' μ' (t.at j) (r.at j)) {i : Nat} (hi : i < n * y) {u : Value} (hu : CRel w F μ (cellAt y t i) u) : CRel w' F' μ' (cellAt y r i) u := by
  have hy : 0 < y := Nat.pos_of_ne_zero fun e => by subst e; omega
  have hlt : i / y < n := (Nat.div_lt_iff_lt_mul hy).2 hi
  have hp3 := h (i / y) hlt
  by_cases e1 : y = 1
  · subst e1
    rw [cellAt, if_pos rfl] at hu ⊢
    rw [Nat.div_one] at hp3
    exact hp3.val u hu
  · rw [cellAt, if_neg e1] at hu ⊢
    exact hp3.elem _ u hu
/-- A block of the call's heap, under a new number. -/
theorem adopt_out {R : Res} (hR : R ≠ .fail) {c : Nat} {hc hp : Hp} {X : Blk} {k : Nat → Hp → Hp → Res} (h : (hc.put M c (.fwd hp.nx) fun hc => (newS M).f hp X fun id hp => k id hc hp) = R) :
    ∃ hc' hp', k hp.nx hc' hp' = R ∧ HSet hc c (.fwd hp.nx) hc' ∧ HSet hp hp.nx X hp' ∧ hp.nx < hp'.nx := by
  obtain ⟨hc', hs, _, g1⟩ := hput_out ok hR h
  obtain ⟨hp', g2, hs2, hn⟩ := newS_ok ok hR rfl rfl g1
  exact ⟨hc', hp', g2, hs, hs2, hn⟩
omit ok in
theorem adopt_sem {c : Nat} {hc hp hc' hp' : Hp} {B X : Blk} (hs : HSet hc c (.fwd hp.nx) hc') (hs2 : HSet hp hp.nx X hp') (hn : hp.nx < hp'.nx) (hBw : B ≠ .dead ∧ ∀ i, B ≠ .fwd i) (hXw : X.wr → B.wr) {E : ImpE} (ho : ImpOk V E) {μ : Mu} (J : ImpJ V E hc hp μ) (hcB : hc.at c = B)
    (hBX : ∀ m, E.μc c = some m → E.hc.at c = B → μ hp.nx = none → BRel V E.w E.Ft (upd μ hp.nx m) hp.nx X) : ∃ μ', ImpJ V E hc' hp' μ' ∧ Le μ μ' ∧ ∀ m, E.μc c = some m → μ' hp.nx = some m := by
  have hcE : E.hc.at c = B := by
    rcases J.d c with e | ⟨id, m, e, _⟩
    · rw [← e]; exact hcB
    · rw [hcB] at e; exact absurd e (hBw.2 id)
  have hng : ¬ (E.hc.at c).gone := by
    rw [hcE]
    intro hg
    cases B with
    | dead => exact hBw.1 rfl
    | _ => exact hg.elim
  obtain ⟨m, hm⟩ := (ho.hc.blk c).some hng
  have hid : μ hp.nx = none := newS_free J.a
  refine ⟨upd μ hp.nx m, ⟨J.a.adopt hid hs2 hn (ho.hc.dom c m hm).2 (hBX m hm hcE hid) (fun hw b m' hb hm' => ?_), fun b hb => ?_, fun b hb => ?_, fun c' => ?_, Nat.le_trans J.nx hs2.nx, hs2.pr.trans J.pr, hs2.rb.trans J.rb⟩, upd_le m hid, fun m' hm' => by rw [hm] at hm'; cases hm'; exact upd_self _ _ _⟩
  · by_cases hlt : b < E.hp.nx
    · rw [(J.b b hlt).2] at hm'
      have h1 := ho.old b m' hm'
      have h2 := ho.new c m hm
      intro e; rw [e] at h1; omega
    · rcases J.c b (by omega) with e | ⟨c', e1, e2, e3⟩
      · rw [e] at hm'; cases hm'
      · have hne : c' ≠ c := fun e => by rw [e, hcB] at e1; exact hBw.2 b e1
        rw [e2] at hm'
        exact ho.hc.excl c' c m' m (e3 hb) (by rw [hcE]; exact hXw hw) hne hm' hm
  · have hne : b ≠ hp.nx := by have := J.nx; omega
    rw [hs2.ne hne, upd_ne μ m hne]
    exact J.b b hb
  · by_cases e : b = hp.nx
    · subst e
      refine .inr ⟨c, hs.same, by rw [upd_self, hm], fun hw => ?_⟩
      rw [hs2.same] at hw
      rw [hcE]; exact hXw hw
    · rw [upd_ne μ m e, hs2.ne e]
      rcases J.c b hb with h | ⟨c', e1, e2, e3⟩
      · exact .inl h
      · have hne : c' ≠ c := fun e => by rw [e, hcB] at e1; exact hBw.2 b e1
        exact .inr ⟨c', by rw [hs.ne hne]; exact e1, e2, e3⟩
  · by_cases e : c' = c
    · subst e
      exact .inr ⟨hp.nx, m, hs.same, hm, upd_self _ _ _, J.nx⟩
    · rw [hs.ne e]
      rcases J.d c' with h | ⟨id, m', h1, h2, h3, h4⟩
      · exact .inl h
      · exact .inr ⟨id, m', h1, h2, upd_le m hid _ _ h3, h4⟩
theorem ib_out {z : IK} (hz : IOk V z) {R : Res} (hR : R ≠ .fail) {c : Nat} {hc hp : Hp} {b : Bool} {k : Nat → Hp → Hp → Bool → Res} (h : ib M z c hc hp b k = R) : ∃ id hc' hp' b', k id hc' hp' b' = R ∧ (b = true → b' = true) ∧
    ∀ (E : ImpE), ImpOk V E → (b' = false ∨ E.full) → ∀ μ, ImpJ V E hc hp μ → ∃ μ', ImpJ V E hc' hp' μ' ∧ Le μ μ' ∧ ∀ m, E.μc c = some m → μ' id = some m := by
  have g := hget_out ok hR h
  have flag : ∀ (rw b : Bool), (b = true → (Bool.rec (motive := fun _ => Bool) true b rw : Bool) = true) ∧ ((Bool.rec (motive := fun _ => Bool) true b rw : Bool) = false → rw = true ∧ b = false) := fun rw b => by cases rw <;> cases b <;> simp
  -- a row's block for the target
  have row : ∀ {E : ImpE} {rw fl fl' : Bool} {y s s' : Nat} {t r : Row} {μ : Mu} {id : Nat} {m : Mp}, ImpOk V E → (E.full ∨ rw = true) → E.μc c = some m → E.hc.at c = .row rw fl y s t → s' ≤ s → (∀ i, i < s' → ∀ u, CRel E.w E.Fc E.μc (cellAt y t i) u → CRel E.w E.Ft (upd μ id m) (cellAt y r i) u) → (fl' = true → ∀ i, i < s' → (cellAt y r i).isFree = true) → BRel V E.w E.Ft (upd μ id m) id (.row rw fl' y s' r) := by
    intro E rw fl fl' y s s' t r μ id m ho hor hm hE hss hcell hfree
    have hb := ho.hc.blk c
    rw [hE] at hb
    obtain ⟨m', cs, T, fz, p1, p2, p3, p4, p5, p6, p7⟩ := hb
    rw [hm] at p1; cases p1
    refine ⟨m, cs, T, fz, upd_self _ _ _, p2, p3, fun i hi => ?_, hfree, fun e => ⟨(p6 e).1, ho.ft c m hm (p6 e).2⟩, fun e => ?_⟩
    · obtain ⟨u, u1, u2, u3⟩ := p4 i (by omega)
      exact ⟨u, u1, u2, hcell i hi u u3⟩
    · rcases hor with q | q
      · exact ho.full q _ (p7 e)
      · rw [e] at q; cases q
  cases hB : hc.at c with
  | dead => rw [hB] at g; exact fail_out hR g
  | loop => rw [hB] at g; exact fail_out hR g
  | fwd id =>
    rw [hB] at g
    refine ⟨id, hc, hp, b, g, fun h => h, fun E ho _ μ J => ⟨μ, J, fun _ _ h => h, fun m hm => ?_⟩⟩
    rcases J.d c with e | ⟨id', m', e, h2, h3, _⟩
    · have := ho.hc.blk c
      rw [← e, hB] at this; exact this.elim
    · rw [hB] at e; cases e
      rw [hm] at h2; cases h2
      exact h3
  | row rw fl y s t =>
    rw [hB] at g
    rcases when_out hR (show when fl (hc.put M c (.fwd hp.nx) fun hc => (newS M).f hp (.row rw fl y s t) fun id hp => k id hc hp (Bool.rec (motive := fun _ => Bool) true b rw))
      ((ir M z (Nat.div s y)).f t 0 .lf 0 hc hp b fun r hc hp b => hc.get M c fun B2 => B2.onRow fun _ _ _ _ _ => forceN (Nat.mul (Nat.div s y) y) fun s => hc.put M c (.fwd hp.nx) fun hc => (newS M).f hp (.row rw false y s r) fun id hp => k id hc hp (Bool.rec (motive := fun _ => Bool) true b rw)) = R from g) with ⟨hfl, g1⟩ | ⟨_, g1⟩
    · obtain ⟨hc', hp', g2, hs1, hs2, hn⟩ := adopt_out ok hR (k := fun id hc hp => k id hc hp (Bool.rec (motive := fun _ => Bool) true b rw)) g1
      refine ⟨_, hc', hp', _, g2, (flag rw b).1, fun E ho hor μ J => adopt_sem hs1 hs2 hn (B := .row rw fl y s t) ⟨by simp, by simp⟩ (fun h => h) ho J hB fun m hm hE _ => row ho (by
        rcases hor with q | q
        · exact .inr ((flag rw b).2 q).1
        · exact .inl q) hm hE (Nat.le_refl s) (fun i hi u hu => ?_) (fun _ i hi => ?_)⟩
      · have hb := ho.hc.blk c
        rw [hE] at hb
        obtain ⟨_, _, _, _, _, _, _, _, p5, _⟩ := hb
        exact hu.free2 (p5 hfl i hi) _ _ _
      · have hb := ho.hc.blk c
        rw [hE] at hb
        obtain ⟨_, _, _, _, _, _, _, _, p5, _⟩ := hb
        exact p5 hfl i hi
    · obtain ⟨r, hc1, hp1, b1, g2, hb1, _, H1⟩ := ir_out ok hz hR _ g1
      have g3 := hget_out ok hR g2
      obtain ⟨rw2, fl2, y2, s2, t2, hB2, g4⟩ := onRow_out hR g3
      rw [forceN_eq] at g4
      obtain ⟨hc', hp', g5, hs1, hs2, hn⟩ := adopt_out ok hR (k := fun id hc hp => k id hc hp (Bool.rec (motive := fun _ => Bool) true b1 rw)) g4
      refine ⟨_, hc', hp', _, g5, fun e => (flag rw b1).1 (hb1 e), fun E ho hor μ J => ?_⟩
      obtain ⟨μ1, J1, l1, s1⟩ := H1 E ho (orImp (flag rw b1).1 hor) μ J
      have hE0 : E.hc.at c = .row rw fl y s t := by
        rcases J.d c with e | ⟨id, m, e, _⟩
        · rw [← e]; exact hB
        · rw [hB] at e; cases e
      have hB3 : hc1.at c = .row rw fl y s t := by
        rcases J1.d c with e | ⟨id, m, e, _⟩
        · rw [e]; exact hE0
        · rw [hB2] at e; cases e
      obtain ⟨μ2, J2, l2, p2⟩ := adopt_sem hs1 hs2 hn (B := .row rw fl y s t) ⟨by simp, by simp⟩ (fun h => h) ho J1 hB3 fun m hm hE hid => row ho (by
        rcases hor with q | q
        · exact .inr ((flag rw b1).2 q).1
        · exact .inl q) hm hE (Nat.div_mul_le_self s y) (fun i hi u hu => by
          have := cells_same (y := y) (n := s / y) (t := t) (r := r) (fun j hj => by
            have := s1 j hj
            rw [Nat.zero_add] at this; exact this) hi hu
          exact this.mono (fun _ _ => rfl) (fun _ h => h) (upd_le m hid)) (fun e => Bool.noConfusion e)
      exact ⟨μ2, J2, fun x m hx => l2 x m (l1 x m hx), p2⟩
  | map n t =>
    rw [hB] at g
    obtain ⟨r, hc1, hp1, b1, g2, hb1, _, H1⟩ := ir_out ok hz hR _ (show (ir M z (Nat.mul 2 n)).f t 0 .lf 0 hc hp b (fun r hc hp b => hc.get M c fun B2 => B2.onMap fun _ _ => hc.put M c (.fwd hp.nx) fun hc => (newS M).f hp (.map n r) fun id hp => k id hc hp b) = R from g)
    have g3 := hget_out ok hR g2
    obtain ⟨n2, t2, hB2, g4⟩ := onMap_out hR g3
    obtain ⟨hc', hp', g5, hs1, hs2, hn⟩ := adopt_out ok hR (k := fun id hc hp => k id hc hp b1) g4
    refine ⟨_, hc', hp', _, g5, hb1, fun E ho hor μ J => ?_⟩
    obtain ⟨μ1, J1, l1, s1⟩ := H1 E ho hor μ J
    have hE0 : E.hc.at c = .map n t := by
      rcases J.d c with e | ⟨id, m, e, _⟩
      · rw [← e]; exact hB
      · rw [hB] at e; cases e
    have hB3 : hc1.at c = .map n t := by
      rcases J1.d c with e | ⟨id, m, e, _⟩
      · rw [e]; exact hE0
      · rw [hB2] at e; cases e
    obtain ⟨μ2, J2, l2, p2⟩ := adopt_sem hs1 hs2 hn (B := .map n t) ⟨by simp, by simp⟩ (fun h => h) ho J1 hB3 fun m hm hE hid => by
      have hb := ho.hc.blk c
      rw [hE] at hb
      obtain ⟨m', es, clk, p1, p2, p3, p4, p5⟩ := hb
      rw [hm] at p1; cases p1
      refine ⟨m, es, clk, upd_self _ _ _, p2, ho.ft c m hm p3, p4, fun i hi => ?_⟩
      obtain ⟨en, e1, e2, e3⟩ := p5 i hi
      have q1 := s1 (2 * i) (by show 2 * i < 2 * n; omega)
      have q2 := s1 (2 * i + 1) (by show 2 * i + 1 < 2 * n; omega)
      rw [Nat.zero_add] at q1 q2
      exact ⟨en, e1, (q1.val _ e2).mono (fun _ _ => rfl) (fun _ h => h) (upd_le m hid), (q2.val _ e3).mono (fun _ _ => rfl) (fun _ h => h) (upd_le m hid)⟩
    exact ⟨μ2, J2, fun x m hx => l2 x m (l1 x m hx), p2⟩
theorem impS_ok {z : IK} (hz : IOk V z) : IOk V (impS M z) := by
  intro v hc hp b k R hR h
  have same : ∀ {v : AV}, v.isFree = true → (∀ l n, v ≠ .agg l n) → k v hc hp b = R → ∃ v' hc' hp' b', k v' hc' hp' b' = R ∧ (b = true → b' = true) ∧ ∀ (E : ImpE), ImpOk V E → (b' = false ∨ E.full) → ∀ μ, ImpJ V E hc hp μ → ∃ μ', ImpJ V E hc' hp' μ' ∧ Le μ μ' ∧ Same2 E.w E.Fc E.μc E.w E.Ft μ' v v' := fun {v} hf hn g =>
    ⟨v, hc, hp, b, g, fun h => h, fun E _ _ μ J => ⟨μ, J, fun _ _ h => h, .plain hn fun u hu => hu.free2 hf _ _ _⟩⟩
  have lists : ∀ {l : Row} {q : Row → AV}, (∀ {w w' : World} {F F' : Nat → Prop} {μ μ' : Mu} {r : Row}, len r = len l → (∀ i u, CRel w F μ (nth l i) u → CRel w' F' μ' (nth r i) u) → Same2 w F μ w' F' μ' v (q r)) → il z l hc hp b (fun r hc hp b => k (q r) hc hp b) = R → ∃ v' hc' hp' b', k v' hc' hp' b' = R ∧ (b = true → b' = true) ∧ ∀ (E : ImpE), ImpOk V E → (b' = false ∨ E.full) → ∀ μ, ImpJ V E hc hp μ → ∃ μ', ImpJ V E hc' hp' μ' ∧ Le μ μ' ∧ Same2 E.w E.Fc E.μc E.w E.Ft μ' v v' := fun {l q} hq g => by
    obtain ⟨r, hc', hp', b', g2, hb, hl, H⟩ := il_out hz hR g
    exact ⟨_, hc', hp', b', g2, hb, fun E ho hor μ J => let ⟨μ', q1, q2, q3⟩ := H E ho hor μ J; ⟨μ', q1, q2, hq hl q3⟩⟩
  -- what nobody writes: whole only
  have fixed : ∀ {v : AV}, (∀ l n, v ≠ .agg l n) → (∀ (E : ImpE), ImpOk V E → E.full → ∀ (μ : Mu) u, CRel E.w E.Fc E.μc v u → CRel E.w E.Ft μ v u) → k v hc hp true = R → ∃ v' hc' hp' b', k v' hc' hp' b' = R ∧ (b = true → b' = true) ∧ ∀ (E : ImpE), ImpOk V E → (b' = false ∨ E.full) → ∀ μ, ImpJ V E hc hp μ → ∃ μ', ImpJ V E hc' hp' μ' ∧ Le μ μ' ∧ Same2 E.w E.Fc E.μc E.w E.Ft μ' v v' := fun {v} hn hv g =>
    ⟨v, hc, hp, true, g, fun _ => rfl, fun E ho hor μ J => ⟨μ, J, fun _ _ h => h, .plain hn fun u hu => hv E ho (hor.resolve_left (by simp)) μ u hu⟩⟩
  cases v with
  | int => exact same rfl (fun _ _ => by simp) h
  | bool => exact same rfl (fun _ _ => by simp) h
  | str => exact same rfl (fun _ _ => by simp) h
  | ptr c o =>
    obtain ⟨id, hc', hp', b', g, hb, H⟩ := ib_out ok hz hR (show ib M z c hc hp b (fun id hc hp b => k (.ptr id o) hc hp b) = R from h)
    refine ⟨_, hc', hp', b', g, hb, fun E ho hor μ J => ?_⟩
    obtain ⟨μ', q1, q2, q3⟩ := H E ho hor μ J
    exact ⟨μ', q1, q2, .plain (fun _ _ => by simp) fun u hu => by
      cases hu with
      | ptr h => exact .ptr (q3 _ h)⟩
  | ms c o n y =>
    obtain ⟨id, hc', hp', b', g, hb, H⟩ := ib_out ok hz hR (show ib M z c hc hp b (fun id hc hp b => k (.ms id o n y) hc hp b) = R from h)
    refine ⟨_, hc', hp', b', g, hb, fun E ho hor μ J => ?_⟩
    obtain ⟨μ', q1, q2, q3⟩ := H E ho hor μ J
    exact ⟨μ', q1, q2, .plain (fun _ _ => by simp) fun u hu => by
      cases hu with
      | ms h h1 h2 => exact .ms (q3 _ h) h1 h2
      | ms0 => exact .ms0⟩
  | vs t o n y => exact fixed (fun _ _ => by simp) (fun E ho hf μ u hu => by
      cases hu with
      | vs us h1 h2 h3 h4 h5 => exact .vs us (ho.full hf _ h1) h2 h3 h4 fun i hi => (h5 i hi).mono (fun _ _ => rfl) (ho.full hf) (fun _ _ h => h)
      | vs0 => exact .vs0) h
  | agg l n =>
    obtain ⟨p, hp1, g1⟩ := lplain_out (show lplain l (fun p => when p (k (.agg l n) hc hp b) (il z l hc hp b fun r hc hp b => k (.agg r n) hc hp b)) = R from h)
    rcases when_out hR g1 with ⟨e, g2⟩ | ⟨_, g2⟩
    · exact ⟨_, hc, hp, b, g2, fun h => h, fun E _ _ μ J => ⟨μ, J, fun _ _ h => h, .agg fun i u hu => hu.free2 (plain_cells (hp1 e) i) _ _ _⟩⟩
    · exact lists (q := fun r => .agg r n) (fun _ h => .agg h) g2
  | tup t n => exact lists (q := fun r => .tup r n) (fun hl h => .tup hl h) h
  | x gg t a p c =>
    have h' : when (Nat.ble 6 gg) (when (Nat.beq gg 12) (il z t hc hp b fun r hc hp b => k (.x gg r a p c) hc hp b) (k (.x gg t a p c) hc hp b))
      (when (Nat.beq gg 1) (k (.x gg t a p c) hc hp true) (when (Nat.beq gg 3) (il z t hc hp b fun r hc hp b => k (.x gg r a p c) hc hp b) (must (Nat.beq gg 4) (ib M z a hc hp b fun id hc hp b => k (.x 4 .lf id p c) hc hp b)))) = R := h
    rcases when_out hR h' with ⟨e6, g1⟩ | ⟨_, g1⟩
    · rw [bleN] at e6
      rcases when_out hR g1 with ⟨e, g2⟩ | ⟨e, g2⟩
      · rw [beqN] at e; subst e
        exact lists (q := fun r => .x 12 r a p c) (fun _ h => .iface h) g2
      · have hne : gg ≠ 12 := fun q => by rw [q] at e; cases e
        refine ⟨_, hc, hp, b, g2, fun h => h, fun E _ _ μ J => ⟨μ, J, fun _ _ h => h, .plain (fun _ _ => by simp) fun u hu => ?_⟩⟩
        cases hu with
        | iface => exact absurd rfl hne
        | emp => exact .emp
        | nilp => exact .nilp
        | nils => exact .nils
        | nilf => exact .nilf
        | nilm => exact .nilm
        | nili => exact .nili
        | undef => omega
        | vptr => omega
        | fn => omega
        | map => omega
        | yld => omega
    · rcases when_out hR g1 with ⟨e, g2⟩ | ⟨_, g2⟩
      · rw [beqN] at e; subst e
        exact fixed (fun _ _ => by simp) (fun E ho hf μ u hu => by
          cases hu with
          | vptr us h1 h3 h4 h5 => exact .vptr us (ho.full hf _ h1) h3 h4 fun i hi => (h5 i hi).mono (fun _ _ => rfl) (ho.full hf) (fun _ _ h => h)) g2
      · rcases when_out hR g2 with ⟨e, g3⟩ | ⟨_, g3⟩
        · rw [beqN] at e; subst e
          exact lists (q := fun r => .x 3 r a p c) (fun hl h => .fn hl h) g3
        · obtain ⟨e, g4⟩ := must_out hR g3
          rw [beqN] at e; subst e
          obtain ⟨id, hc', hp', b', g, hb, H⟩ := ib_out ok hz hR g4
          refine ⟨_, hc', hp', b', g, hb, fun E ho hor μ J => ?_⟩
          obtain ⟨μ', q1, q2, q3⟩ := H E ho hor μ J
          exact ⟨μ', q1, q2, .plain (fun _ _ => by simp) fun u hu => by
            cases hu with
            | map h => exact .map (q3 _ h)⟩
theorem imp_ok (n : Nat) : IOk V (imp M n) := by
  induction n with
  | zero => exact fun _ _ _ _ _ _ hR h => fail_out hR h
  | succ n ih => exact impS_ok ok ih
end
end Go.Proofs.YtkgnabjcogmobaaGreat.Ev

/- Calls. -/
namespace Go.Proofs.YtkgnabjcogmobaaGreat.Ev
theorem empty_wr {μ : Mu} {B : Nat} : ¬ WB .empty μ B := fun ⟨b, m, h, _⟩ => by
  have : Hp.empty.at b = .dead := get_lf _ _
  rw [this] at h; exact h
theorem HRel.grow {V : Env} {μ : Mu} {F F' : Nat → Prop} {h : Hp} {w w' : World} (H : HRel V μ F h w) (hs : w.heap.size ≤ w'.heap.size) (hk : ∀ B, B < w.heap.size → w'.heap[B]? = w.heap[B]?) (hF : ∀ B, F B → F' B) (hn : ∀ B, F' B → F B ∨ w.heap.size ≤ B) (hi : ∀ B, F' B → B < w'.heap.size) : HRel V μ F' h w' :=
  ⟨fun b => (H.blk b).keep (fun B hB => hk B (H.imm B hB)) hF (fun _ _ h => h) (fun m hm => hk _ (H.dom b m hm).2) (fun m hm _ hnF hF' => (hn _ hF').elim hnF fun h => by have := (H.dom b m hm).2; omega), H.excl, fun b m hm => let ⟨q1, q2⟩ := H.dom b m hm; ⟨q1, Nat.lt_of_lt_of_le q2 hs⟩, hi⟩
theorem imp_ext {V : Env} {E : ImpE} {μ : Mu} {Fa : Nat → Prop} {w : World} {hc' hp' : Hp} (hs : E.s = w.heap.size) (H : HRel V E.μ Fa E.hp w) (ho : ImpOk V E) (J : ImpJ V E hc' hp' μ) (hsize : w.heap.size ≤ E.w.heap.size) (hk : ∀ B, B < w.heap.size → E.w.heap[B]? = w.heap[B]?) (hF : ∀ B, Fa B → E.Ft B) (hn : ∀ B, E.Ft B → Fa B ∨ w.heap.size ≤ B) (hio : SameIo w E.w) :
    Ext E.μ Fa E.hp w μ E.Ft hp' E.w ∧ ∀ b, μ b ≠ none → E.μ b ≠ none ∨ E.hp.nx ≤ b := by
  have new : ∀ b m, E.hp.nx ≤ b → μ b = some m → w.heap.size ≤ m.blk := fun b m hb hm => by
    rcases J.c b hb with e | ⟨c, _, e, _⟩
    · rw [e] at hm; cases hm
    · rw [e] at hm; rw [← hs]; exact ho.new c m hm
  refine ⟨⟨fun b m hm => ?_, hF, hsize, fun B hB _ => hk B hB, fun B ⟨b, m, h1, h2, h3, h4⟩ => ?_, fun B ⟨b, m, h1, h3, h4⟩ => ?_, fun B hB => (hn B hB).imp (fun h => h) .inl, fun b m hm => ?_, J.nx, J.pr, J.rb, hio⟩, fun b hb => ?_⟩
  · rw [(J.b b (H.dom b m hm).1).2]; exact hm
  · by_cases e : b < E.hp.nx
    · obtain ⟨q1, q2⟩ := J.b b e
      exact .inr ⟨b, m, q1 ▸ h1, J.pr ▸ h2, q2 ▸ h3, h4⟩
    · exact .inl (h4 ▸ new b m (by omega) h3)
  · by_cases e : b < E.hp.nx
    · obtain ⟨q1, q2⟩ := J.b b e
      exact .inr ⟨b, m, q1 ▸ h1, q2 ▸ h3, h4⟩
    · exact .inl (h4 ▸ new b m (by omega) h3)
  · by_cases e : b < E.hp.nx
    · exact .inl ((J.b b e).2 ▸ hm)
    · refine .inr ⟨?_, .inl (new b m (by omega) hm)⟩
      cases hx : E.μ b with
      | none => rfl
      | some m' => exact absurd (H.dom b m' hx).1 e
  · by_cases e : b < E.hp.nx
    · exact .inl ((J.b b e).2 ▸ hb)
    · exact .inr (by omega)
/-- What a call does. -/
def CallDoes (V : Env) (f : FuncId) (a : Row) (hp : Hp) (v : AV) (hp' : Hp) : Prop := ∀ (w : World) (μ : Mu) (F : Nat → Prop) (args : Array Value) (n : Nat), HRel V μ F hp w → Args w F μ a args →
  CallsIn (Wf none) n V.P f args w fun e w' => ∃ x, e = .returned x ∧ ∃ μ' F', CRel w' F' μ' v x ∧ (∀ b, μ' b ≠ none → μ b ≠ none ∨ hp.nx ≤ b) ∧ HRel V μ' F' hp' w' ∧ Ext μ F hp w μ' F' hp' w'
section
variable {V : Env} {M : Mem} (ok : MemOk M) {R : Res} (hR : R ≠ .fail) {f : FuncId} {G : FnS} (hG : FnOk V f G)
include hR hG
theorem shareK_out {a : Row} {hp : Hp} {k : AV → Hp → Res} (h : shareK G a hp k = R) : Can V.P f ∧ ∃ v hp', k v hp' = R ∧ CallDoes V f a hp v hp' := by
  cases hb : G.f a hp with
  | val v h1 =>
    have h' : Hp.rec (motive := fun _ => Res) (fun t nx _ _ => Hp.rec (motive := fun _ => Res) (fun _ _ pr rb => k v ⟨t, nx, pr, rb⟩) hp) h1 = R := by
      unfold shareK at h
      rw [hb] at h; exact h
    obtain ⟨hcan, v', hp', e, H⟩ := hG a hp _ hb (by simp)
    injection e with ev eh
    subst ev; subst eh
    refine ⟨hcan, v, ⟨h1.t, h1.nx, hp.pr, hp.rb⟩, h', fun w μ F args n hH ha => (H w μ F args n hH ha).mono fun e w' ⟨x, e1, μ', F', hv1, h2, h3⟩ => ⟨x, e1, μ', F', hv1, h3.ids, ⟨h2.blk, h2.excl, h2.dom, h2.imm⟩, ?_⟩⟩
    have E := h3.ext
    have hpr : h1.pr = hp.pr := E.pr
    exact ⟨E.mu, E.fr, E.size, E.keep, fun B ⟨b, m, o1, o2, o3, o4⟩ => E.own B ⟨b, m, o1, fun hm => o2 (show b ∈ hp.pr from hpr ▸ hm), o3, o4⟩, E.wb, E.newF, E.newMu, E.nx, rfl, rfl, E.io⟩
  | _ => unfold shareK at h; rw [hb] at h; exact fail_out hR h
include ok
theorem pureK_out {a0 a : Row} {hp ho : Hp} {k : AV → Hp → Res} (hfr : ∀ (w : World) (F : Nat → Prop) (μ : Mu), HRel V μ F hp w → ∃ F', HRel V μ F' ho w ∧ Ext μ F hp w μ F' ho w ∧ ∀ i u, CRel w F μ (nth a0 i) u → CRel w F' noMu (nth a i) u) (hlen : len a = len a0) (h : pureK M G a hp ho k = R) : Can V.P f ∧ ∃ v hp', k v hp' = R ∧ CallDoes V f a0 hp v hp' := by
  cases hb : G.f a .empty with
  | val v hc =>
    have h' : (imp M 8).f v hc hp false (fun v' _ hp' b => when b ((imp M 8).f v hc ho false fun v _ hp _ => k v hp) (k v' hp')) = R := by
      unfold pureK at h
      rw [hb] at h; exact h
    obtain ⟨hcan, v0, hc0, e, H⟩ := hG a .empty _ hb (by simp)
    injection e with ev eh
    subst ev; subst eh
    -- the call, in a heap of its own
    have call : ∀ (w : World) (μ : Mu) (F : Nat → Prop) (args : Array Value) (n : Nat), HRel V μ F hp w → Args w F μ a0 args → ∃ F1, HRel V μ F1 ho w ∧ Ext μ F hp w μ F1 ho w ∧ CallsIn (Wf none) n V.P f args w fun e w' => ∃ x, e = .returned x ∧ ∃ μc Fc, CRel w' Fc μc v x ∧ HRel V μc Fc hc w' ∧ SameIo w w' ∧ w.heap.size ≤ w'.heap.size ∧ (∀ B, B < w.heap.size → w'.heap[B]? = w.heap[B]?) ∧ (∀ c m, μc c = some m → w.heap.size ≤ m.blk) ∧ (∀ B, F1 B → Fc B) ∧ ∀ B, Fc B → F1 B ∨ w.heap.size ≤ B := by
      intro w μ F args n hH ha
      obtain ⟨F1, q1, q2, q3⟩ := hfr w F μ hH
      refine ⟨F1, q1, q2, ?_⟩
      have he : ∀ b, Hp.empty.at b = .dead := fun b => get_lf _ _
      have H0 : HRel V noMu F1 .empty w := ⟨fun b => by rw [he]; exact trivial, fun b _ _ _ h1 => by rw [he] at h1; exact h1.elim, fun b m hm => (by cases hm), q1.imm⟩
      refine (H w noMu F1 args n H0 ⟨hlen.trans ha.1, fun i u hu => q3 i u (ha.2 i u hu)⟩).mono fun e w' ⟨x, e1, μc, Fc, h1, h2, h3⟩ => ⟨x, e1, μc, Fc, h1, h2, h3.ext.io, h3.ext.size, fun B hB => h3.ext.keep B hB fun ho => empty_wr ho.wb, fun c m hm => ?_, h3.ext.fr, fun B hB => ?_⟩
      · rcases h3.ext.newMu c m hm with e | ⟨_, e | e⟩
        · cases e
        · exact e
        · exact absurd e.wb empty_wr
      · rcases h3.ext.newF B hB with e | e | e
        · exact .inl e
        · exact .inr e
        · exact absurd e empty_wr
    obtain ⟨v', hc', hp', b', g1, _, HI⟩ := imp_ok (V := V) ok 8 v hc hp false (fun v' _ hp' b => when b ((imp M 8).f v hc ho false fun v _ hp _ => k v hp) (k v' hp')) R hR h'
    refine ⟨hcan, ?_⟩
    rcases when_out hR g1 with ⟨hb', g2⟩ | ⟨hb', g2⟩
    · obtain ⟨v2, hc2, hp2, b2, g3, _, HI2⟩ := imp_ok (V := V) ok 8 v hc ho false (fun v _ hp _ => k v hp) R hR g2
      refine ⟨v2, hp2, g3, fun w μ F args n hH ha => ?_⟩
      obtain ⟨F1, q1, q2, q3⟩ := call w μ F args n hH ha
      refine q3.mono fun e w' ⟨x, e1, μc, Fc, h1, h2, hio, hsz, hk, hnew, hF1, hFc⟩ => ⟨x, e1, ?_⟩
      let E : ImpE := ⟨w', μc, Fc, Fc, hc, ho, μ, w.heap.size, True⟩
      have hoE : ImpOk V E := ⟨h2, hnew, q1.grow hsz hk hF1 hFc h2.imm, fun b m hm => (q1.dom b m hm).2, fun _ _ _ h => h, fun _ _ h => h⟩
      obtain ⟨μ', J, hle, hs⟩ := HI2 E hoE (.inr trivial) μ ⟨hoE.hp, fun _ _ => ⟨rfl, rfl⟩, fun b hb => .inl (by
        cases hx : μ b with
        | none => rfl
        | some m => exact absurd (q1.dom b m hx).1 (Nat.not_lt.2 hb)), fun c => .inl rfl, Nat.le_refl _, rfl, rfl⟩
      obtain ⟨x1, x2⟩ := imp_ext (Fa := F1) (w := w) rfl q1 hoE J hsz hk hF1 hFc hio
      exact ⟨μ', Fc, hs.val x h1, fun b hb => (x2 b hb).imp (fun h => h) fun h => Nat.le_trans q2.nx h, J.a, q2.trans x1⟩
    · subst hb'
      refine ⟨v', hp', g2, fun w μ F args n hH ha => ?_⟩
      obtain ⟨F1, q1, q2, q3⟩ := call w μ F args n hH ha
      refine q3.mono fun e w' ⟨x, e1, μc, Fc, h1, h2, hio, hsz, hk, hnew, hF1, hFc⟩ => ⟨x, e1, ?_⟩
      let E : ImpE := ⟨w', μc, Fc, F, hc, hp, μ, w.heap.size, False⟩
      have hoE : ImpOk V E := ⟨h2, hnew, hH.grow hsz hk (fun _ h => h) (fun _ h => .inl h) (fun B hB => Nat.lt_of_lt_of_le (hH.imm B hB) hsz), fun b m hm => (hH.dom b m hm).2, fun c m hm _ hF => by
        have z1 := hnew c m hm
        have z2 := hH.imm _ hF
        omega, fun h => h.elim⟩
      obtain ⟨μ', J, hle, hs⟩ := HI E hoE (.inl rfl) μ ⟨hoE.hp, fun _ _ => ⟨rfl, rfl⟩, fun b hb => .inl (by
        cases hx : μ b with
        | none => rfl
        | some m => exact absurd (hH.dom b m hx).1 (Nat.not_lt.2 hb)), fun c => .inl rfl, Nat.le_refl _, rfl, rfl⟩
      obtain ⟨x1, x2⟩ := imp_ext (Fa := F) (w := w) rfl hH hoE J hsz hk (fun _ h => h) (fun _ h => .inl h) hio
      exact ⟨μ', F, hs.val x h1, x2, J.a, x1⟩
  | _ => unfold pureK at h; rw [hb] at h; exact fail_out hR h
theorem callK_out {sh : Bool} {a : Row} {hp : Hp} {k : AV → Hp → Res} (h : callK M sh G a hp k = R) : Can V.P f ∧ ∃ v hp', k v hp' = R ∧ CallDoes V f a hp v hp' := by
  cases sh with
  | true => exact shareK_out hR hG h
  | false =>
    have h' : Res.rec (motive := fun _ => Res) (fun _ _ => shareK G a hp k) (fun _ _ _ => shareK G a hp k) (fun _ _ => shareK G a hp k) (fun v h => v.onTup fun r _ => pureK M G r hp h k) (shareK G a hp k) (zl (frz M 8) a hp fun r h => .val (.tup r 0) h) = R := h
    cases hz : zl (frz M 8) a hp fun r h => .val (.tup r 0) h with
    | val v ho =>
      obtain ⟨r, hp', e, hl, H⟩ := zl_out (frz_ok (V := V) ok 8) (R := .val v ho) (by simp) hz
      cases e
      rw [hz] at h'
      exact pureK_out ok hR hG H hl h'
    | _ => rw [hz] at h'; exact shareK_out hR hG h'
end
theorem fnOf_ok {C : Cx} {V : Env} (h : ∀ p ∈ C.fn, FnOk V p.1 p.2) (f : Nat) : FnOk V f (fnOf C f) := by
  unfold fnOf
  revert h
  generalize C.fn = l
  induction l with
  | nil => exact fun _ l hp R h hR => fail_out hR h
  | cons p l ih =>
    intro h
    show FnOk V f (Bool.rec (motive := fun _ => FnS) (List.rec (motive := fun _ => FnS) noFn (fun a _ ih => Bool.rec (motive := fun _ => FnS) ih a.2 (Nat.beq a.1 f)) l) p.2 (Nat.beq p.1 f))
    rw [bcase]
    by_cases e : p.1 = f
    · rw [if_pos (by rw [beqN]; exact e), ← e]; exact h p (List.mem_cons_self ..)
    · rw [if_neg (by rw [beqN]; exact e)]; exact ih fun q hq => h q (List.mem_cons_of_mem _ hq)
theorem app_out {R : Res} {b : Row} : ∀ {a : Row} {k : Row → Res}, app a b k = R → ∃ r, k r = R ∧ len r = len a + len b ∧ ∀ i, nth r i = if i < len a then nth a i else nth b (i - len a)
  | .lf, k, h => ⟨b, h, by show _ = 0 + _; omega, fun i => by show nth b i = if i < 0 then _ else nth b (i - 0); rw [if_neg (Nat.not_lt_zero _)]; rfl⟩
  | .nd v x a, k, h => by
    obtain ⟨r, h1, h2, h3⟩ := app_out (a := a) (k := fun r => k (.nd v .lf r)) h
    refine ⟨_, h1, by show len r + 1 = len a + 1 + len b; omega, fun i => ?_⟩
    cases i with
    | zero => exact (if_pos (show 0 < len a + 1 from Nat.succ_pos _)).symm
    | succ i =>
      show nth r i = if i + 1 < len a + 1 then nth a i else nth b (i + 1 - (len a + 1))
      rw [h3 i]
      by_cases e : i < len a
      · rw [if_pos e, if_pos (by omega)]
      · rw [if_neg e, if_neg (by omega)]; congr 1; omega
theorem splice_out {R : Res} (hR : R ≠ .fail) {b : Row} : ∀ {n : Nat} {a : Row} {k : Row → Res}, splice n a b k = R → ∃ r, k r = R ∧ n ≤ len a ∧ len r = len a + len b ∧ ∀ i, nth r i = if i < n then nth a i else if i < n + len b then nth b (i - n) else nth a (i - len b)
  | 0, a, k, h => by
    obtain ⟨r, h1, h2, h3⟩ := app_out (show app b a k = R from h)
    refine ⟨r, h1, Nat.zero_le _, by omega, fun i => ?_⟩
    rw [h3 i, if_neg (Nat.not_lt_zero _)]
    simp only [Nat.zero_add, Nat.sub_zero]
  | n + 1, a, k, h => by
    cases a with
    | lf => exact fail_out hR h
    | nd v x a =>
      obtain ⟨r, h1, h2, h3, h4⟩ := splice_out hR (n := n) (a := a) (k := fun r => k (.nd v .lf r)) h
      refine ⟨_, h1, Nat.succ_le_succ h2, by show len r + 1 = len a + 1 + len b; omega, fun i => ?_⟩
      cases i with
      | zero => rw [if_pos (Nat.succ_pos _)]; rfl
      | succ i =>
        show nth r i = if i + 1 < n + 1 then nth a i else if i + 1 < n + 1 + len b then nth b (i + 1 - (n + 1)) else nth (.nd v x a) (i + 1 - len b)
        rw [h4 i]
        by_cases e : i < n
        · rw [if_pos e, if_pos (show i + 1 < n + 1 by omega)]
        · rw [if_neg e, if_neg (show ¬ i + 1 < n + 1 by omega)]
          by_cases e2 : i < n + len b
          · rw [if_pos e2, if_pos (show i + 1 < n + 1 + len b by omega)]; congr 1; omega
          · rw [if_neg e2, if_neg (show ¬ i + 1 < n + 1 + len b by omega)]
            have : i + 1 - len b = (i - len b) + 1 := by omega
            rw [this]; rfl
theorem run_callFunc {P : Program} {f : FuncId} (h : Can P f) (args : Array Value) (w : World) : (callFunc f args).run P w = .ok (.enter f args) w := by
  obtain ⟨fn, h1, h2, h3⟩ := h
  have n1 : ¬ fn.name = "runtime.NumGoroutine" := by simpa using h3
  have b1 : ¬ fn.body = none := fun e => by rw [e] at h2; cases h2
  simp [callFunc, h1, n1, b1]
end Go.Proofs.YtkgnabjcogmobaaGreat.Ev

/- Calls, as operations. -/
namespace Go.Proofs.YtkgnabjcogmobaaGreat.Ev
/-- What a round of a loop over a function does. -/
def YldDoes (V : Env) (b : Nat) (l : Row) (hp : Hp) (v : AV) (hp' : Hp) : Prop := ∀ (w : World) (μ : Mu) (F : Nat → Prop) (m : Mp) (args : Array Value) (r : Option Nat) (n : Nat), HRel V μ F hp w → μ b = some m → Args w F μ l args →
  ∃ f tmps a c, (Instr.yield m.blk args).run V.P w = .ok (.round m.blk f tmps a c) w ∧ RoundIn (Wf r) n V.P m.blk f tmps a c w fun e w' => ∃ x, e = .returned x ∧ ∃ μ' F', CRel w' F' μ' v x ∧ (∀ b, μ' b ≠ none → μ b ≠ none ∨ hp.nx ≤ b) ∧ HRel V μ' F' hp' w' ∧ Ext μ F hp w μ' F' hp' w'
def Yields (C : Cx) (V : Env) : Prop := ∀ (b : Nat) (l : Row) (hp : Hp) (k : AV → Hp → Res) (R : Res), R ≠ .fail → yldK C b l hp k = R → ∃ v hp', k v hp' = R ∧ YldDoes V b l hp v hp'
theorem callsIn_wf {r : Option Nat} {n : Nat} {P : Program} {f : FuncId} {args : Array Value} {w : World} {Q : Ending → World → Prop} (h : CallsIn (Wf none) n P f args w Q) : CallsIn (Wf r) n P f args w Q := h
section
variable {V : Env} {O : Operand → AV} {o : Oper} {id : Nat} {hp hp' : Hp} {v : AV}
theorem knd_call {f : Operand} {as : Array Operand} {ts : Array TypeId} (hop : o.op = .call ⟨.value f, as, ts⟩) {fid : FuncId} {l : Row} (hcan : Can V.P fid) (hd : CallDoes V fid l hp v hp')
    (hargs : ∀ {w : World} {F : Nat → Prop} {μ : Mu} {ρ : Operand → Value}, ORel w F μ O o.op.operands.toList ρ → ∃ fs cs, ρ f = .func (.func fid) fs cs ∧ Args w F μ l (fs ++ as.map ρ ++ cs)) : Knd V O o id hp v hp' 3 := by
  refine .other fun {w F μ a r n Q K} hO hid hH hK => ⟨fun _ _ => trivial, ?_⟩
  obtain ⟨fs, cs, hf, ha⟩ := hargs hO
  have hnd : ∀ c, o.op ≠ .defer c := fun c e => by rw [hop] at e; cases e
  have e : (execOp a.eval o).run V.P w = .ok (.enter fid (fs ++ as.map a.eval ++ cs)) w := by
    have e1 : execOp a.eval o = (do let d ← resolve a.eval ⟨.value f, as, ts⟩ o.type; invoke d.target d.args) := by simp only [execOp, hop]
    rw [e1]
    simp only [resolve, hf, Deferred.ofValue, Sem.run_bind, Sem.run_pure, invoke]
    exact run_callFunc hcan _ _
  rw [Oper.semAt_eq _ _ _ hnd, e]
  refine ⟨(fun h => by cases h), callsIn_wf ((hd w μ F _ (n - 1) hH ha).mono fun e w' ⟨x, e1, μ', F', h1, h2, h3, h4⟩ => ?_)⟩
  subst e1
  exact hK x w' μ' F' h1 (fun b hb => (h2 b hb).imp (fun h => h) .inr) h3 h4
theorem knd_yield {f : Operand} {as : Array Operand} {ts : Array TypeId} (hop : o.op = .call ⟨.value f, as, ts⟩) {b : Nat} {l : Row} (hd : YldDoes V b l hp v hp')
    (hargs : ∀ {w : World} {F : Nat → Prop} {μ : Mu} {ρ : Operand → Value}, ORel w F μ O o.op.operands.toList ρ → ∃ m, μ b = some m ∧ ρ f = .func (.yield m.blk) #[] #[] ∧ Args w F μ l (as.map ρ)) : Knd V O o id hp v hp' 3 := by
  refine .other fun {w F μ a r n Q K} hO hid hH hK => ⟨fun _ _ => trivial, ?_⟩
  obtain ⟨m, hm, hf, ha⟩ := hargs hO
  have hnd : ∀ c, o.op ≠ .defer c := fun c e => by rw [hop] at e; cases e
  obtain ⟨fn, tmps, x, y, hy, hr⟩ := hd w μ F m _ r (n - 1) hH hm ha
  have e : (execOp a.eval o).run V.P w = .ok (.round m.blk fn tmps x y) w := by
    have e1 : execOp a.eval o = (do let d ← resolve a.eval ⟨.value f, as, ts⟩ o.type; invoke d.target d.args) := by simp only [execOp, hop]
    rw [e1]
    simp only [resolve, hf, Deferred.ofValue, Sem.run_bind, Sem.run_pure, invoke, Array.empty_append]
    exact hy
  rw [Oper.semAt_eq _ _ _ hnd, e]
  refine ⟨(fun h => by cases h), hr.mono fun e w' ⟨x, e1, μ', F', h1, h2, h3, h4⟩ => ?_⟩
  subst e1
  exact hK x w' μ' F' h1 (fun b hb => (h2 b hb).imp (fun h => h) .inr) h3 h4
end
theorem mem_callee {f : Operand} {as : Array Operand} {ts : Array TypeId} {o : Oper} (hop : o.op = .call ⟨.value f, as, ts⟩) : f ∈ o.op.operands.toList ∧ ∀ x ∈ as.toList, x ∈ o.op.operands.toList := by
  rw [hop]
  simp [Op.operands, Call.operands]
  exact fun x hx => .inr hx
theorem callsOk {C : Cx} {vs : Nat → List Nat} (ok : MemOk C.M) (hfn : ∀ p ∈ C.fn, FnOk (C.env vs) p.1 p.2) (hy : Yields C (C.env vs)) : CallsOk C (C.env vs) := by
  intro g P k R sk fr hp id o f as ts hR hop h
  obtain ⟨hm, hms⟩ := mem_callee hop
  have hnd : ∀ c, o.op ≠ .defer c := fun c e => by rw [hop] at e; cases e
  have hcls : 3 ≤ cls C.P o.op := by rw [hop]; simp [cls]
  have argsL : ∀ {l : Row}, len l = as.toList.length → (∀ i x, as.toList[i]? = some x → nth l i = ov C g sk fr x) → ∀ {w : World} {F : Nat → Prop} {μ : Mu} {ρ : Operand → Value}, ORel w F μ (ov C g sk fr) o.op.operands.toList ρ → Args w F μ l (as.map ρ) := by
    intro l h1 h2 w F μ ρ hO
    refine ⟨by rw [h1]; simp, fun i u hu => ?_⟩
    rw [Array.getElem?_map] at hu
    cases hx : as[i]? with
    | none => rw [hx] at hu; cases hu
    | some x =>
      rw [hx] at hu
      cases hu
      have hx' : as.toList[i]? = some x := by rw [Array.getElem?_toList]; exact hx
      rw [h2 i x hx']
      exact hO x (hms x (List.mem_of_getElem? hx'))
  -- a function's value
  have other : (⟨fun sk fr hp => (rdO C g f).get sk fr fun fv => fv.onX fun i u f n m => (ak (as.toList.map (rdO C g))).f sk fr fun l => when (Nat.beq i 3) (splice n u l fun l => callK C.M (shOf C f) (fnOf C f) l hp fun v hp => P.f k sk fr hp v)
      (must (Nat.beq i 5) (yldK C f l hp fun v hp => P.f k sk fr hp v))⟩ : Sm).run sk fr hp = R → Out C (C.env vs) g P k sk fr o id hp R := by
    intro h
    have h1 := rdO_out hR (k := fun fv => fv.onX fun i u f n m => (ak (as.toList.map (rdO C g))).f sk fr fun l => when (Nat.beq i 3) (splice n u l fun l => callK C.M (shOf C f) (fnOf C f) l hp fun v hp => P.f k sk fr hp v)
      (must (Nat.beq i 5) (yldK C f l hp fun v hp => P.f k sk fr hp v))) h
    obtain ⟨i, u, fid, n, m, hfv, h2⟩ := onX_out hR h1
    obtain ⟨l, h3, hl, hn⟩ := ak_out hR h2
    rcases when_out hR h3 with ⟨hi, h4⟩ | ⟨_, h4⟩
    · rw [beqN] at hi
      subst hi
      obtain ⟨l2, h5, q1, q2, q3⟩ := splice_out hR h4
      obtain ⟨hcan, v, hp', h6, hd⟩ := callK_out ok hR (fnOf_ok hfn fid) h5
      refine ⟨v, hp', 3, h6, knd_call hop hcan hd fun {w F μ ρ} hO => ?_, .inr (.inr (.inr ⟨rfl, hcls⟩)), hnd⟩
      have hc := hO f hm
      rw [hfv] at hc
      have hA := argsL hl hn hO
      generalize hρ : ρ f = vf at hc
      cases hc with
      | @fn _ _ _ _ _ fs cs us e1 e2 e3 hu hv hx =>
        refine ⟨fs, cs, rfl, ?_, fun j u' hj => ?_⟩
        · rw [q2, hA.1, e3]; simp only [Array.size_append]; omega
        · have hls : len l = (as.map ρ).size := hA.1
          rw [q3]
          by_cases c1 : j < n
          · rw [if_pos c1]
            rw [Array.append_assoc, Array.getElem?_append_left (by omega), hu j c1] at hj
            cases hj
            exact hx j (by omega)
          · rw [if_neg c1]
            by_cases c2 : j < n + len l
            · rw [if_pos c2]
              rw [Array.getElem?_append_left (by rw [Array.size_append]; omega), Array.getElem?_append_right (by omega), e1] at hj
              exact hA.2 _ _ hj
            · rw [if_neg c2]
              rw [Array.getElem?_append_right (by rw [Array.size_append]; omega), Array.size_append, e1, ← hls] at hj
              have hjm : j - (n + len l) < m := by
                rcases Nat.lt_or_ge (j - (n + len l)) m with q | q
                · exact q
                · rw [Array.getElem?_eq_none (by omega)] at hj; cases hj
              rw [hv _ hjm] at hj
              cases hj
              have hix : j - len l = n + (j - (n + len l)) := by omega
              rw [hix]
              exact hx _ (by omega)
    · obtain ⟨hi, h5⟩ := must_out hR h4
      rw [beqN] at hi
      subst hi
      obtain ⟨v, hp', h6, hd⟩ := hy _ _ _ _ _ hR h5
      refine ⟨v, hp', 3, h6, knd_yield hop hd fun {w F μ ρ} hO => ?_, .inr (.inr (.inr ⟨rfl, hcls⟩)), hnd⟩
      have hc := hO f hm
      rw [hfv] at hc
      generalize hρ : ρ f = vf at hc
      cases hc with
      | yld hb => exact ⟨_, hb, rfl, argsL hl hn hO⟩
  cases f with
  | func fid =>
    have h0 : (ak (as.toList.map (rdO C g))).f sk fr (fun l => callK C.M (shOf C fid) (fnOf C fid) l hp fun v hp => P.f k sk fr hp v) = R := h
    obtain ⟨l, h1, hl, hn⟩ := ak_out hR h0
    obtain ⟨hcan, v, hp', h6, hd⟩ := callK_out ok hR (fnOf_ok hfn fid) h1
    refine ⟨v, hp', 3, h6, knd_call hop hcan hd fun {w F μ ρ} hO => ?_, .inr (.inr (.inr ⟨rfl, hcls⟩)), hnd⟩
    have hc := hO _ hm
    have e0 : ov C g sk fr (.func fid) = .x 3 .lf fid 0 0 := rfl
    rw [e0] at hc
    have hA := argsL hl hn hO
    generalize hρ : ρ (.func fid) = vf at hc
    cases hc with
    | @fn _ _ _ _ _ fs cs us e1 e2 e3 hu hv hx =>
      have hf : fs = #[] := Array.size_eq_zero_iff.1 e1
      have hc : cs = #[] := Array.size_eq_zero_iff.1 e2
      subst hf; subst hc
      exact ⟨#[], #[], rfl, by rw [Array.empty_append, Array.append_empty]; exact hA⟩
  | tmp t => exact other h
  | const c => exact other h
  | global n => exact other h
end Go.Proofs.YtkgnabjcogmobaaGreat.Ev

/- Rounds of loops over functions. -/
namespace Go.Proofs.YtkgnabjcogmobaaGreat.Ev
/-- A frame and a function's variables. -/
def FrRel (C : Cx) (w : World) (F : Nat → Prop) (μ : Mu) (fr : Fr) (T : Array Value) : Prop := ∀ t j, idxOf t C.vars 0 = .f j → CRel w F μ (fr.at j) (T.getD t undef)
def putAll (T : Array Value) (l : List (Nat × Value)) : Array Value := l.foldl (fun T p => T.setIfInBounds p.1 p.2) T
theorem setK_out {C : Cx} {R : Res} (hR : R ≠ .fail) : ∀ {ps : List Nat} {l : Row} {fr : Fr} {k : Fr → Res}, setK C ps l fr k = R → ∃ fr', k fr' = R ∧ len l = ps.length ∧ ∀ {w : World} {F : Nat → Prop} {μ : Mu} {T : Array Value} {args : List Value}, C.nt ≤ T.size → FrRel C w F μ fr T → args.length = ps.length → (∀ i u, args[i]? = some u → CRel w F μ (nth l i) u) →
    FrRel C w F μ fr' (putAll T (ps.zip args)) ∧ (putAll T (ps.zip args)).size = T.size
  | [], l, fr, k, h => by
    cases l with
    | lf => exact ⟨fr, h, rfl, fun _ hf _ _ => ⟨hf, rfl⟩⟩
    | nd v a r => exact fail_out hR h
  | p :: ps, l, fr, k, h => by
    cases l with
    | lf => exact fail_out hR h
    | nd v a r =>
      obtain ⟨hp, h1⟩ := must_out hR (show must (Nat.ble (Nat.succ p) C.nt) (Src.rec (motive := fun _ => Res) (fun _ => .fail) (fun _ => .fail) (fun i => (fset i).f fr v fun fr => setK C ps r fr k) .fail (idxOf p C.vars 0)) = R from h)
      rw [bleN] at hp
      rcases idxOf_f (l := C.vars) (t := p) (i := 0) with ⟨i, hi⟩ | hi
      · rw [hi] at h1
        obtain ⟨fr1, h2, h3⟩ := fset_out hR i (k := fun fr => setK C ps r fr k) h1
        obtain ⟨fr', h4, h5, H⟩ := setK_out hR h3
        refine ⟨fr', h4, congrArg (· + 1) h5, fun {w F μ T args} hT hf hl ha => ?_⟩
        cases args with
        | nil => cases hl
        | cons u us =>
          have h6 := H (w := w) (F := F) (μ := μ) (T := T.setIfInBounds p u) (args := us) (by simpa using hT) (fun t j hj => ?_) (by simpa using hl) (fun i u' e => ha (i + 1) u' e)
          · exact ⟨h6.1, h6.2.trans (by simp)⟩
          · rw [h2 j]
            by_cases e : j = i
            · subst e
              have : t = p := idxOf_inj hj hi
              subst this
              rw [if_pos rfl]
              have : (T.setIfInBounds t u).getD t undef = u := by
                rw [Array.getD_eq_getD_getElem?, Array.getElem?_setIfInBounds, if_pos rfl, if_pos (by omega)]; rfl
              rw [this]
              exact ha 0 u rfl
            · rw [if_neg e]
              have hne : p ≠ t := fun q => by subst q; rw [hi] at hj; cases hj; exact e rfl
              have : (T.setIfInBounds p u).getD t undef = T.getD t undef := by
                rw [Array.getD_eq_getD_getElem?, Array.getD_eq_getD_getElem?, Array.getElem?_setIfInBounds, if_neg hne]
              rw [this]
              exact hf t j hj
      · rw [hi] at h1; exact fail_out hR h1
theorem putAll_eq (ps : Array Nat) (args : Array Value) (T : Array Value) : (ps.zip args).foldl (fun tmps (t, a) => tmps.setIfInBounds t a) T = putAll T (ps.toList.zip args.toList) := by
  rw [← Array.foldl_toList, Array.toList_zip]; rfl
/-- A loop's record is written. -/
theorem loop_set {V : Env} {μ : Mu} {F : Nat → Prop} {h : Hp} {w : World} (H : HRel V μ F h w) {b s f i : Nat} {fr : Fr} {m : Mp} (hB : h.at b = .loop s f i fr) (hpr : b ∉ h.pr) (hm : μ b = some m) :
    ∃ L, w.heap[m.blk]? = some (.loop L) ∧ LoopRel V.P w F μ V.vars s f i fr L ∧ ∀ {h' : Hp} {st : Nat} {L' : Loop}, HSet h b (.loop st f i fr) h' → LoopRel V.P w F μ V.vars st f i fr L' → HRel V μ F h' { w with heap := w.heap.setIfInBounds m.blk (.loop L') } ∧ Ext μ F h w μ F h' { w with heap := w.heap.setIfInBounds m.blk (.loop L') } := by
  have hb := H.blk b
  rw [hB] at hb
  obtain ⟨m', L, h1, h2, h3, h4⟩ := hb
  rw [hm] at h1
  cases h1
  refine ⟨L, h2, h4, fun {h' st L'} hs hL => ?_⟩
  have hlt := (H.dom b m hm).2
  have hk : ∀ X, X ≠ m.blk → (w.heap.setIfInBounds m.blk (.loop L'))[X]? = w.heap[X]? := fun X hX => by
    rw [Array.getElem?_setIfInBounds, if_neg (Ne.symm hX)]
  refine H.set (w' := { w with heap := w.heap.setIfInBounds m.blk (.loop L') }) (by rw [hB]; exact trivial) hpr hm (by simp) hk hs ⟨m, L', hm, ?_, h3, hL.mono (fun B hB => hk B fun e => h3 (e ▸ hB)) (fun _ h => h) (fun _ _ h => h)⟩
  show (w.heap.setIfInBounds m.blk (.loop L'))[m.blk]? = _
  rw [Array.getElem?_setIfInBounds, if_pos rfl, if_pos hlt]
theorem run_getLoop {P : Program} {w : World} {l : Nat} {L : Loop} (h : w.heap[l]? = some (.loop L)) : (Instr.getLoop l).run P w = .ok L w := by
  simp [Instr.getLoop, getObj, Sem.run, h]
theorem run_endRound {P : Program} {w : World} {l : Nat} {L : Loop} {j : Option Code} (h : w.heap[l]? = some (.loop L)) : (Instr.endRound l j).run P w = .ok (.bool j.isNone) { w with heap := w.heap.setIfInBounds l (.loop { L with state := if j.isNone then .ready else .done, pending := j }) } := by
  simp [Instr.endRound, run_getLoop h, setObj, Sem.run, h]
theorem run_beginRound {P : Program} {w : World} {l : Nat} {L : Loop} (h : w.heap[l]? = some (.loop L)) (hs : L.state = .ready) : (Instr.beginRound l).run P w = .ok () { w with heap := w.heap.setIfInBounds l (.loop { L with state := .busy }) } := by
  simp [Instr.beginRound, run_getLoop h, setObj, Sem.run, h, hs]
theorem yldEnd_out {M : Mem} (ok : MemOk M) {R : Res} (hR : R ≠ .fail) {b rb st : Nat} {pr : List Nat} {v : Bool} {h : Hp} {k : AV → Hp → Res} (g : yldEnd M b pr rb st v h k = R) : ∃ f i fr h', h.at b = .loop 1 f i fr ∧ HSet h b (.loop st f i fr) h' ∧ k (.bool v) ⟨h'.t, h'.nx, pr, rb⟩ = R := by
  have g1 := hget_out ok hR g
  obtain ⟨s, f, i, fr, hB, g2⟩ := onLoop_out hR g1
  obtain ⟨hs, g3⟩ := must_out hR g2
  rw [beqN] at hs
  subst hs
  obtain ⟨h', hset, _, g4⟩ := hput_out ok hR g3
  exact ⟨f, i, fr, h', hB, hset, by cases h'; exact g4⟩
theorem yldS_out {C : Cx} {i : Nat} : yldS C i = noYld ∨ ∃ fn c ps a b, C.P.funcs[C.self]? = some fn ∧ fn.body = some c ∧ findRF i c = some (ps, a, b) ∧ rfIn a = [] ∧ rfIn b = [] ∧ (yldS C i).f = (fun fr l hp => setK C ps l fr fun fr => ((den C a).run .e (fun _ => okS) [] failS).run .lf fr hp) ∧ (yldS C i).g = fun fr hp => ((den C b).run .e (fun _ => okS) (exMap (idsOf c)) rtS).run .lf fr hp := by
  unfold yldS
  split
  · exact .inl rfl
  · rename_i fn hfn
    rw [getO_eq, Array.getElem?_toList] at hfn
    split
    · exact .inl rfl
    · rename_i c hc
      split
      · exact .inl rfl
      · rename_i ps a b hrf
        cases hb : band (noRF a) (noRF b) with
        | false => exact .inl rfl
        | true =>
          obtain ⟨h1, h2⟩ := (band_eq _ _).mp hb
          exact .inr ⟨fn, c, ps, a, b, hfn, hc, hrf, noRF_out h1, noRF_out h2, rfl, rfl⟩
end Go.Proofs.YtkgnabjcogmobaaGreat.Ev

/- Yields. -/
namespace Go.Proofs.YtkgnabjcogmobaaGreat.Ev
theorem endRound_at {C : Cx} {vs : Nat → List Nat} {μ0 : Mu} {F0 : Nat → Prop} {h0 : Hp} {w0 : World} {fr3 : Fr} {h3 : Hp} {a : Act} {w : World} (S : At C vs 0 μ0 F0 h0 w0 .e .lf fr3 h3 a w) {b : Nat} {m : Mp} (hm : μ0 b = some m) (hpr : b ∉ h0.pr) {f i st : Nat} {fr : Fr} {h4 : Hp} (hB : h3.at b = .loop 1 f i fr) (hs : HSet h3 b (.loop st f i fr) h4) (j : Option Code)
    (hst : (st = 0 ∧ j = none) ∨ (st = 2 ∧ j = some .ret) ∨ (∃ id, st = 2 * id + 3 ∧ j = some (.exit id)) ∨ (∃ l, st = 2 * l + 1 + 3 ∧ j = some (.goto l))) :
    ∃ v w', (Instr.endRound m.blk j).run C.P w = .ok v w' ∧ ∃ x, Ending.returned v = .returned x ∧ ∃ μ' F', CRel w' F' μ' (.bool j.isNone) x ∧ (∀ b, μ' b ≠ none → μ0 b ≠ none ∨ h0.nx ≤ b) ∧ HRel (C.env vs) μ' F' ⟨h4.t, h4.nx, h0.pr, h0.rb⟩ w' ∧ Ext μ0 F0 h0 w0 μ' F' ⟨h4.t, h4.nx, h0.pr, h0.rb⟩ w' := by
  obtain ⟨μ, F, S, E⟩ := S
  have hpr3 : h3.pr = h0.pr := E.ext.pr
  obtain ⟨L, hL, hrel, H⟩ := loop_set S.h hB (by rw [hpr3]; exact hpr) (E.ext.mu b m hm)
  refine ⟨_, _, run_endRound hL, _, rfl, ?_⟩
  obtain ⟨g1, g2⟩ := H (L' := { L with state := if j.isNone then .ready else .done, pending := j }) hs (by
    refine ⟨hrel.1, hrel.2.1, hrel.2.2.1, ?_⟩
    rcases hst with ⟨rfl, rfl⟩ | ⟨rfl, rfl⟩ | ⟨id, rfl, rfl⟩ | ⟨l, rfl, rfl⟩
    · exact ⟨rfl, rfl⟩
    · exact ⟨rfl, rfl⟩
    · exact ⟨rfl, .inl ⟨id, rfl, rfl⟩⟩
    · exact ⟨rfl, .inr ⟨l, rfl, rfl⟩⟩)
  have e := E.trans (.of g2 fun b hb => .inl hb)
  refine ⟨μ, F, .bool _, e.ids, ⟨g1.blk, g1.excl, g1.dom, g1.imm⟩, ?_⟩
  have e1 := e.ext
  have hp4 : h4.pr = h0.pr := e1.pr
  exact ⟨e1.mu, e1.fr, e1.size, e1.keep, fun B ⟨b, m, o1, o2, o3, o4⟩ => e1.own B ⟨b, m, o1, fun hm => o2 (show b ∈ h0.pr from hp4 ▸ hm), o3, o4⟩, e1.wb, e1.newF, e1.newMu, e1.nx, rfl, rfl, e1.io⟩
theorem yld_body {C : Cx} {vs : Nat → List Nat} (X : CxOk C vs) (hv : vs C.self = C.nt :: C.vars) {M : Mem} (ok : MemOk M) {R : Res} (hR : R ≠ .fail) {i b : Nat} {l : Row} {hp : Hp} {fr0 : Fr} {k : AV → Hp → Res} (hB : hp.at b = .loop 0 C.self i fr0) (hpr : b ∉ hp.pr)
    (h : (Res.rec (motive := fun _ => Res) (fun fr1 h1 => Hp.rec (motive := fun _ => Res) (fun _ _ pr rb => yldGo M b pr rb (yldS C i) fr1 h1 k) hp) (fun _ _ _ => .fail) (fun _ _ => .fail) (fun _ _ => .fail) .fail ((yldS C i).f fr0 l hp) : Res) = R) :
    ∃ v hp', k v hp' = R ∧ YldDoes (C.env vs) b l hp v hp' := by
  rcases yldS_out (C := C) (i := i) with e | ⟨fn, c, ps, x, y, hfn, hc, hrf, hx, hy, hf, hg⟩
  · rw [e] at h; exact fail_out hR h
  · generalize hRa : (yldS C i).f fr0 l hp = Ra at h
    cases Ra with
    | ok fr1 h1 =>
      have h' : yldGo M b hp.pr hp.rb (yldS C i) fr1 h1 k = R := by cases hp; exact h
      rw [hf] at hRa
      obtain ⟨fr0', hRa', hlen, HK⟩ := setK_out (by simp) hRa
      have g1 := hget_out ok hR h'
      obtain ⟨st, f', i', fr', hB1, g2⟩ := onLoop_out hR g1
      obtain ⟨hst0, g3⟩ := must_out hR g2
      rw [beqN] at hst0
      subst hst0
      obtain ⟨h2, hset2, _, g4⟩ := hput_out ok hR g3
      generalize hRb' : (yldS C i).g fr1 h2 = Rb at g4
      have hRb : ((den C y).run .e (fun _ => okS) (exMap (idsOf c)) rtS).run .lf fr1 h2 = Rb := by rw [hg] at hRb'; exact hRb'
      have hRb0 : Rb ≠ .fail := fun e => by rw [e] at g4; exact hR g4.symm
      -- the end, by its way
      have fin : ∃ (st : Nat) (j : Option Code) (fr3 : Fr) (h3 : Hp) , yldEnd M b hp.pr hp.rb st j.isNone h3 k = R ∧ ((Rb = .ok fr3 h3 ∧ st = 0 ∧ j = none) ∨ (Rb = .ret fr3 h3 ∧ st = 2 ∧ j = some .ret) ∨ (∃ id, Rb = .exit (2 * id) fr3 h3 ∧ st = 2 * id + 3 ∧ j = some (.exit id)) ∨ (∃ l, Rb = .exit (2 * l + 1) fr3 h3 ∧ st = 2 * l + 1 + 3 ∧ j = some (.goto l))) := by
        cases Rb with
        | ok fr3 h3 => exact ⟨0, none, fr3, h3, g4, .inl ⟨rfl, rfl, rfl⟩⟩
        | ret fr3 h3 => exact ⟨2, some .ret, fr3, h3, g4, .inr (.inl ⟨rfl, rfl, rfl⟩)⟩
        | exit n fr3 h3 =>
          rcases Nat.mod_two_eq_zero_or_one n with e | e
          · have en : n = 2 * (n / 2) := by omega
            exact ⟨n + 3, some (.exit (n / 2)), fr3, h3, g4, .inr (.inr (.inl ⟨n / 2, by rw [← en], by omega, rfl⟩))⟩
          · have en : n = 2 * (n / 2) + 1 := by omega
            exact ⟨n + 3, some (.goto (n / 2)), fr3, h3, g4, .inr (.inr (.inr ⟨n / 2, by rw [← en], by omega, rfl⟩))⟩
        | _ => exact fail_out hR g4
      obtain ⟨st, j, fr3, h3, g5, hway⟩ := fin
      obtain ⟨f3, i3, fr3', h4, hB3, hset4, g6⟩ := yldEnd_out ok hR g5
      refine ⟨_, _, g6, fun w μ F m args r n hH hm ha => ?_⟩
      obtain ⟨L, hL, ⟨⟨fn', c', ps', x', y', q1, q2, q3, q4, q5, q6⟩, hnt, hfr, hst⟩, _⟩ := loop_set hH hB hpr hm
      have q1' : C.P.funcs[C.self]? = some fn' := q1
      rw [hfn] at q1'; cases q1'
      rw [hc] at q2; cases q2
      rw [hrf] at q3; cases q3
      have hnt' : C.nt ≤ L.tmps.size := by
        have e : (vs C.self).headD 0 ≤ L.tmps.size := hnt
        rw [hv] at e; exact e
      have hfr' : FrRel C w F μ fr0 L.tmps := fun t j e => hfr t j (by
        show idxOf t (vs C.self).tail 0 = .f j
        rw [hv]; exact e)
      have hlen2 : args.toList.length = ps.length := by rw [Array.length_toList, ← ha.1, hlen]
      obtain ⟨k1, k2⟩ := HK (w := w) (F := F) (μ := μ) (T := L.tmps) (args := args.toList) hnt' hfr' hlen2 fun i u e => ha.2 i u (by rw [← Array.getElem?_toList]; exact e)
      refine ⟨L.fn, putAll L.tmps (ps.zip args.toList), L.assign, L.body, ?_, ?_⟩
      · have hsz : ¬ args.size ≠ L.params.size := by
          rw [← Array.length_toList (xs := L.params), q4, ← hlen, ha.1]; simp
        show Sem.run C.P _ w = _
        simp only [Instr.yield, Sem.run_bind, run_getLoop hL, Result.andThen_ok, hsz, if_false, Sem.run_pure, putAll_eq, q4]
      · rw [q5, q6]
        refine roundIn_of_wpIn trivial ?_
        have hSt : St C (C.env vs) w.heap.size .e .lf fr0' hp μ F { tmps := putAll L.tmps (ps.zip args.toList), defers := [] } w := by
          refine ⟨GInv.e, fun t => ?_, hH, ?_, trivial⟩
          · show CRel w F μ (sv 0 (look C .e t) .lf fr0') _
            have e : look C .e t = idxOf t C.vars 0 := rfl
            rw [e]
            rcases idxOf_f (l := C.vars) (t := t) (i := 0) with ⟨j, hj⟩ | hj
            · rw [hj]; exact k1 t j hj
            · rw [hj]; exact .undef _
          · show C.nt ≤ (putAll L.tmps (ps.zip args.toList)).size
            rw [k2]; exact hnt'
        refine (runOk (r := some m.blk) (n := n) X x (by rw [hx]; exact fun z hz => (by cases hz))).1 (s0 := 0) (by simp) hRa' ⟨μ, F, hSt, ExtC.refl _ _ _ _⟩ (fun g' sk' fr1' h1' a1 w1 e S1 => ?_) (fun id fr2 hp2 a' w' e _ => by cases e) (fun l fr2 hp2 a' w' e _ => by cases e) (fun fr2 hp2 a' w' e _ => by cases e)
        have e1 : Res.ok fr1' h1' = .ok fr1 h1 := e
        cases e1
        obtain ⟨μ1, F1, S1, E1⟩ := S1.drop
        have hpr1 : h1.pr = hp.pr := E1.ext.pr
        obtain ⟨L1, hL1, hrel1, H1⟩ := loop_set S1.h hB1 (by rw [hpr1]; exact hpr) (E1.ext.mu b m hm)
        refine ⟨_, run_beginRound hL1 hrel1.2.2.2.1, ?_⟩
        obtain ⟨p1, p2⟩ := H1 (L' := { L1 with state := .busy }) hset2 ⟨hrel1.1, hrel1.2.1, hrel1.2.2.1, rfl⟩
        have S2 : At C vs 0 μ F hp w .e .lf fr1 h2 a1 { w1 with heap := w1.heap.setIfInBounds m.blk (.loop { L1 with state := .busy }) } :=
          ⟨μ1, F1, ⟨S1.gi, fun t => (S1.sl t).ext S1.h p2, p1, S1.nt, S1.df.ext p2⟩, E1.trans (.of p2 fun b hb => .inl hb)⟩
        refine (runOk (r := some m.blk) (n := n) X y (by rw [hy]; exact fun z hz => (by cases hz))).1 (s0 := 0) hRb0 hRb S2 (fun g' sk' fr' hp' a' w' e S' => ?_) (fun id fr' hp' a' w' e S' => ?_) (fun l fr' hp' a' w' e S' => ?_) (fun fr' hp' a' w' e S' => ?_)
        · have e0 : Rb = .ok fr' hp' := e.symm
          rcases hway with ⟨z, z1, z2⟩ | ⟨z, z1, z2⟩ | ⟨id, z, z1, z2⟩ | ⟨l, z, z1, z2⟩ <;> rw [e0] at z <;> cases z
          subst z2
          exact endRound_at S'.drop hm hpr hB3 hset4 none (.inl ⟨z1, rfl⟩)
        · have e0 := exMap_out hRb0 e
          rcases hway with ⟨z, z1, z2⟩ | ⟨z, z1, z2⟩ | ⟨id', z, z1, z2⟩ | ⟨l, z, z1, z2⟩ <;> rw [e0] at z
          · cases z
          · cases z
          · injection z with z3 z4 z5
            subst z4; subst z5
            have : id = id' := by omega
            subst this
            subst z2
            exact endRound_at S' hm hpr hB3 hset4 _ (.inr (.inr (.inl ⟨id, z1, rfl⟩)))
          · injection z with z3; omega
        · have e0 := exMap_out hRb0 e
          rcases hway with ⟨z, z1, z2⟩ | ⟨z, z1, z2⟩ | ⟨id', z, z1, z2⟩ | ⟨l', z, z1, z2⟩ <;> rw [e0] at z
          · cases z
          · cases z
          · injection z with z3; omega
          · injection z with z3 z4 z5
            subst z4; subst z5
            have : l = l' := by omega
            subst this
            subst z2
            exact endRound_at S' hm hpr hB3 hset4 _ (.inr (.inr (.inr ⟨l, z1, rfl⟩)))
        · have e0 : Rb = .ret fr' hp' := e.symm
          rcases hway with ⟨z, z1, z2⟩ | ⟨z, z1, z2⟩ | ⟨id, z, z1, z2⟩ | ⟨l, z, z1, z2⟩ <;> rw [e0] at z <;> cases z
          subst z2
          exact endRound_at S' hm hpr hB3 hset4 _ (.inr (.inl ⟨z1, rfl⟩))
    | _ => exact fail_out hR h
/-- A body that may be called. -/
inductive YldOk : Env → Nat → Nat → YldS → Prop
  | mk {C : Cx} {vs : Nat → List Nat} {i : Nat} (X : CxOk C vs) (hv : vs C.self = C.nt :: C.vars) : YldOk (C.env vs) C.self i (yldS C i)
theorem yld_one {V : Env} {f i : Nat} {Y : YldS} (hY : YldOk V f i Y) {M : Mem} (ok : MemOk M) {R : Res} (hR : R ≠ .fail) {b : Nat} {l : Row} {hp : Hp} {fr0 : Fr} {k : AV → Hp → Res} (hB : hp.at b = .loop 0 f i fr0) (hpr : b ∉ hp.pr)
    (h : (Res.rec (motive := fun _ => Res) (fun fr1 h1 => Hp.rec (motive := fun _ => Res) (fun _ _ pr rb => yldGo M b pr rb Y fr1 h1 k) hp) (fun _ _ _ => .fail) (fun _ _ => .fail) (fun _ _ => .fail) .fail (Y.f fr0 l hp) : Res) = R) :
    ∃ v hp', k v hp' = R ∧ YldDoes V b l hp v hp' := by
  cases hY with
  | mk X hv => exact yld_body X hv ok hR hB hpr h
theorem yields_ok {C : Cx} {V : Env} (ok : MemOk C.M) (hy : ∀ p ∈ C.yl, YldOk V p.1 p.2.1 p.2.2) : Yields C V := by
  intro b l hp k R hR h
  unfold yldK at h
  have key : ∀ X : Res, notProt b hp X = notIn b hp.pr X := fun X => by cases hp; rfl
  obtain ⟨hpr, h1⟩ := notIn_out hR ((key _).symm.trans h)
  have h2 := hget_out ok hR h1
  obtain ⟨st, f, i, fr0, hB, h3⟩ := onLoop_out hR h2
  obtain ⟨hst, h4⟩ := must_out hR h3
  rw [beqN] at hst
  subst hst
  have hor : ylOf C f i = noYld ∨ YldOk V f i (ylOf C f i) := by
    unfold ylOf
    revert hy
    generalize C.yl = L
    intro hy
    induction L with
    | nil => exact .inl rfl
    | cons p L ih =>
      have ih := ih fun q hq => hy q (List.mem_cons_of_mem _ hq)
      have hp := hy p (List.mem_cons_self ..)
      show (Bool.rec (motive := fun _ => YldS) (List.rec (motive := fun _ => YldS) noYld (fun a _ ih => Bool.rec (motive := fun _ => YldS) ih (Bool.rec (motive := fun _ => YldS) ih a.2.2 (Nat.beq a.2.1 i)) (Nat.beq a.1 f)) L) (Bool.rec (motive := fun _ => YldS) (List.rec (motive := fun _ => YldS) noYld (fun a _ ih => Bool.rec (motive := fun _ => YldS) ih (Bool.rec (motive := fun _ => YldS) ih a.2.2 (Nat.beq a.2.1 i)) (Nat.beq a.1 f)) L) p.2.2 (Nat.beq p.2.1 i)) (Nat.beq p.1 f) : YldS) = noYld ∨ YldOk V f i (Bool.rec (motive := fun _ => YldS) (List.rec (motive := fun _ => YldS) noYld (fun a _ ih => Bool.rec (motive := fun _ => YldS) ih (Bool.rec (motive := fun _ => YldS) ih a.2.2 (Nat.beq a.2.1 i)) (Nat.beq a.1 f)) L) (Bool.rec (motive := fun _ => YldS) (List.rec (motive := fun _ => YldS) noYld (fun a _ ih => Bool.rec (motive := fun _ => YldS) ih (Bool.rec (motive := fun _ => YldS) ih a.2.2 (Nat.beq a.2.1 i)) (Nat.beq a.1 f)) L) p.2.2 (Nat.beq p.2.1 i)) (Nat.beq p.1 f))
      cases e1 : Nat.beq p.1 f with
      | false => exact ih
      | true =>
        cases e2 : Nat.beq p.2.1 i with
        | false => exact ih
        | true =>
          rw [beqN] at e1 e2
          rw [← e1, ← e2]
          exact .inr hp
  rcases hor with e | hY
  · rw [e] at h4; exact fail_out hR h4
  · exact yld_one hY ok hR hB hpr h4
end Go.Proofs.YtkgnabjcogmobaaGreat.Ev

/- Loops over functions. -/
namespace Go.Proofs.YtkgnabjcogmobaaGreat.Ev
theorem rf_find : ∀ (c : Code), (rfIn c = [] → ∀ i, findRF i c = none) ∧ ((rfIn c).length ≤ 1 → ∀ z ∈ rfIn c, findRF (z.2.1.getD 0 0) c = some (z.2.1.toList, z.2.2.1, z.2.2.2)) := by
  intro c
  have two : ∀ (a b : Code) (i : Nat), (rfIn a = [] → ∀ i, findRF i a = none) ∧ ((rfIn a).length ≤ 1 → ∀ z ∈ rfIn a, findRF (z.2.1.getD 0 0) a = some (z.2.1.toList, z.2.2.1, z.2.2.2)) → (rfIn b = [] → ∀ i, findRF i b = none) ∧ ((rfIn b).length ≤ 1 → ∀ z ∈ rfIn b, findRF (z.2.1.getD 0 0) b = some (z.2.1.toList, z.2.2.1, z.2.2.2)) →
      (rfIn a ++ rfIn b = [] → (Option.rec (motive := fun _ => Option (List Nat × Code × Code)) (findRF i b) some (findRF i a) : Option _) = none) ∧ ((rfIn a ++ rfIn b).length ≤ 1 → ∀ z ∈ rfIn a ++ rfIn b, (Option.rec (motive := fun _ => Option (List Nat × Code × Code)) (findRF (z.2.1.getD 0 0) b) some (findRF (z.2.1.getD 0 0) a) : Option _) = some (z.2.1.toList, z.2.2.1, z.2.2.2)) := by
    intro a b i ⟨a1, a2⟩ ⟨b1, b2⟩
    refine ⟨fun h => ?_, fun h z hz => ?_⟩
    · obtain ⟨h1, h2⟩ := List.append_eq_nil_iff.1 h
      rw [a1 h1 i]; exact b1 h2 i
    · rw [List.length_append] at h
      rcases List.mem_append.1 hz with hz | hz
      · rw [a2 (by omega) z hz]
      · have : rfIn a = [] := List.length_eq_zero_iff.1 (by have := List.length_pos_of_mem hz; omega)
        rw [a1 this]; exact b2 (by omega) z hz
  induction c with
  | seq a b iha ihb =>
    have e : rfIn (.seq a b) = rfIn a ++ rfIn b := appR_eq _ _
    rw [e]
    exact ⟨fun h i => (two a b i iha ihb).1 h, fun h z hz => (two a b 0 iha ihb).2 h z hz⟩
  | cond o a b iha ihb =>
    have e : rfIn (.cond o a b) = rfIn a ++ rfIn b := appR_eq _ _
    rw [e]
    exact ⟨fun h i => (two a b i iha ihb).1 h, fun h z hz => (two a b 0 iha ihb).2 h z hz⟩
  | block id b ih => exact ih
  | loop b ih => exact ih
  | scope b ih => exact ih
  | rangeFunc f ps a b iha ihb =>
    have e : rfIn (.rangeFunc f ps a b) = (f, ps, a, b) :: (rfIn a ++ rfIn b) := congrArg (_ :: ·) (appR_eq _ _)
    rw [e]
    refine ⟨(fun h => by cases h), fun h z hz => ?_⟩
    have h0 : (rfIn a ++ rfIn b) = [] := List.length_eq_zero_iff.1 (by rw [List.length_cons] at h; omega)
    rw [h0, List.mem_singleton] at hz
    subst hz
    show (Bool.rec (motive := fun _ => Option (List Nat × Code × Code)) (findRF (ps.getD 0 0) b) (some (ps.toList, a, b)) (Nat.beq (ps.getD 0 0) (ps.getD 0 0)) : Option _) = _
    rw [show Nat.beq (ps.getD 0 0) (ps.getD 0 0) = true from by rw [beqN]]
  | _ => exact ⟨fun _ _ => rfl, fun _ z hz => (by cases hz)⟩
theorem args_splice {w : World} {F : Nat → Prop} {μ : Mu} {u l l2 : Row} {a n m : Nat} {vf : Value} {as : Array Value} (hc : CRel w F μ (.x 3 u a n m) vf) (hA : Args w F μ l as) (q2 : len l2 = len u + len l) (q3 : ∀ i, nth l2 i = if i < n then nth u i else if i < n + len l then nth l (i - n) else nth u (i - len l)) :
    ∃ fs cs, vf = .func (.func a) fs cs ∧ Args w F μ l2 (fs ++ as ++ cs) := by
  cases hc with
  | @fn _ _ _ _ _ fs cs us e1 e2 e3 hu hv hx =>
    refine ⟨fs, cs, rfl, ?_, fun j u' hj => ?_⟩
    · rw [q2, hA.1, e3]; simp only [Array.size_append]; omega
    · have hls : len l = as.size := hA.1
      rw [q3]
      by_cases c1 : j < n
      · rw [if_pos c1]
        rw [Array.append_assoc, Array.getElem?_append_left (by omega), hu j c1] at hj
        cases hj
        exact hx j (by omega)
      · rw [if_neg c1]
        by_cases c2 : j < n + len l
        · rw [if_pos c2]
          rw [Array.getElem?_append_left (by rw [Array.size_append]; omega), Array.getElem?_append_right (by omega), e1] at hj
          exact hA.2 _ _ hj
        · rw [if_neg c2]
          rw [Array.getElem?_append_right (by rw [Array.size_append]; omega), Array.size_append, e1, ← hls] at hj
          have hjm : j - (n + len l) < m := by
            rcases Nat.lt_or_ge (j - (n + len l)) m with q | q
            · exact q
            · rw [Array.getElem?_eq_none (by omega)] at hj; cases hj
          rw [hv _ hjm] at hj
          cases hj
          have hix : j - len l = n + (j - (n + len l)) := by omega
          rw [hix]
          exact hx _ (by omega)
theorem st_drop {C : Cx} {V : Env} {s0 : Nat} {g : G} {sk : Row} {fr : Fr} {hp : Hp} {μ : Mu} {F : Nat → Prop} {a : Act} {w : World} (S : St C V s0 g sk fr hp μ F a w) : St C V s0 .e .lf fr hp μ F a w := by
  refine ⟨GInv.e, fun t => ?_, S.h, S.nt, S.df⟩
  have e : look C .e t = idxOf t C.vars 0 := rfl
  show CRel w F μ (sv 0 (look C .e t) .lf fr) _
  rw [e]
  rcases idxOf_f (l := C.vars) (t := t) (i := 0) with ⟨j, hj⟩ | hj
  · rw [hj]
    have h1 := S.sl t
    have hl : look C g t = .f j := by
      rw [look_eq]
      rcases lookL_mem (z := idxOf t C.vars 0) (t := t) (l := g.m) with ⟨x, p1, p2, _⟩ | ⟨_, p2⟩
      · have := S.gi.nv x p1
        rw [p2, idxOf_var hj] at this; cases this
      · rw [p2]; exact hj
    unfold sig at h1
    rw [hl] at h1
    exact h1
  · rw [hj]; exact .undef _
theorem marks_lt {s0 : Nat} {h : Hp} {μ : Mu} {F : Nat → Prop} {w : World} : ∀ {ds : List Deferred}, Marks s0 h μ F w ds → ∀ d ∈ ds, ∃ r, d.target = .collected r ∧ r < w.heap.size
  | [], _, _, hd => (by cases hd)
  | _ :: _, ⟨⟨r, h1, _, h3, _⟩, hr⟩, d', hd => by
    rcases List.mem_cons.1 hd with rfl | hd
    · exact ⟨r, h1, h3⟩
    · exact marks_lt hr d' hd
theorem run_endLoop {P : Program} {w : World} {l : Nat} {L : Loop} (h : w.heap[l]? = some (.loop L)) (hs : L.state = .ready ∨ L.state = .done) : (Instr.endLoop l).run P w = .ok L.pending { w with heap := w.heap.setIfInBounds l (.loop { L with state := .exhausted }) } := by
  rcases hs with hs | hs <;> simp [Instr.endLoop, run_getLoop h, setObj, Sem.run, h, hs]
theorem run_enterLoop {P : Program} {w : World} {f : FuncId} {T : Array Value} {ps : Array Tmp} {x y : Code} : (Instr.enterLoop f T ps x y none).run P w = .ok (w.heap.size + 1, [{ target := .collected w.heap.size, args := #[] }]) { w with heap := (w.heap.push (.deferred (some []))).push (.loop { state := .ready, pending := none, fn := f, tmps := T, params := ps, assign := x, body := y, defers := w.heap.size }) } := by
  simp [Instr.enterLoop, newObj, Sem.run]
  rfl
section
variable {C : Cx} {vs : Nat → List Nat} (X : CxOk C vs) (hfn : ∀ p ∈ C.fn, FnOk (C.env vs) p.1 p.2) (hv : vs C.self = C.nt :: C.vars)
include X hfn hv
theorem RunOk.rangeFunc {fn : Func} {c : Code} (hself : C.P.funcs[C.self]? = some fn) (hbody : fn.body = some c) {n : Nat} {f : Operand} {ps : Array Tmp} {x y : Code} (hrf : findRF (ps.getD 0 0) c = some (ps.toList, x, y)) : RunOk C vs none n (.rangeFunc f ps x y) := by
  intro s0 μ0 F0 h0 w0 g k ex rt sk fr hp R a w Q hR h ⟨μ, F, S, E⟩ hN hE hG hT
  have h1 := rdO_out hR (C := C) (g := g) (x := f) (sk := sk) (fr := fr) (k := fun fv => fv.onX fun g u a n m => must (Nat.beq g 3) ((newS C.M).f hp (.loop 0 C.self (ps.getD 0 0) fr) fun b hp =>
    notProt b hp (splice n u (.nd (.x 5 .lf b 0 0) .lf .lf) fun l => shareK (fnOf C a) l hp fun _ hp => hp.get C.M b fun B => B.onLoop fun st _ _ _ => hp.put C.M b .dead fun hp =>
      Nat.rec (motive := fun _ => Res) ((k .e).run .lf fr hp) (fun s _ => Nat.rec (motive := fun _ => Res) .fail (fun s _ => Nat.rec (motive := fun _ => Res) (rt.run .lf fr hp) (fun s _ => goOn ex s fr hp) s) s) st))) h
  obtain ⟨q, u, fid, nn, mm, hfv, h2⟩ := onX_out hR h1
  obtain ⟨hq, h3⟩ := must_out hR h2
  rw [beqN] at hq
  subst hq
  obtain ⟨h1', h4, hset1, hlt1⟩ := newS_ok X.ok (hp := hp) hR rfl rfl h3
  have key : ∀ (h : Hp) (b : Nat) (Y : Res), notProt b h Y = notIn b h.pr Y := fun h b Y => by cases h; rfl
  obtain ⟨hpr1, h5⟩ := notIn_out hR ((key _ _ _).symm.trans h4)
  obtain ⟨l2, h6, q1, q2, q3⟩ := splice_out hR h5
  obtain ⟨hcan, v, hp2, h7, hd⟩ := shareK_out hR (fnOf_ok hfn fid) h6
  have h8 := hget_out X.ok hR h7
  obtain ⟨st, f2, i2, fr2, hB2, h9⟩ := onLoop_out hR h8
  obtain ⟨h3', hset3, _, h10⟩ := hput_out X.ok hR h9
  refine wpIn_rangeFunc fun fnn _ => ?_
  -- the record
  let L : Loop := { state := .ready, pending := none, fn := fnn, tmps := a.tmps, params := ps, assign := x, body := y, defers := w.heap.size }
  let wa : World := { w with heap := w.heap.push (.deferred (some [])) }
  let w1 : World := { w with heap := (w.heap.push (.deferred (some []))).push (.loop L) }
  let m : Mp := ⟨w.heap.size + 1, 0, 0⟩
  have hnF : ¬ F m.blk := fun hF => by have := S.h.imm _ hF; have e : m.blk = w.heap.size + 1 := rfl; omega
  have hka : ∀ B, B < w.heap.size → wa.heap[B]? = w.heap[B]? := fun B hB => by
    show (w.heap.push _)[B]? = _
    rw [Array.getElem?_push, if_neg (by omega)]
  have hsa : wa.heap.size = w.heap.size + 1 := by show (w.heap.push _).size = _; rw [Array.size_push]
  have Ha : HRel (C.env vs) μ F hp wa := S.h.grow (by omega) hka (fun _ h => h) (fun _ h => .inl h) fun B hB => by have := S.h.imm B hB; omega
  have Ea : Ext μ F hp w μ F hp wa := ⟨fun _ _ h => h, fun _ h => h, by omega, fun B hB _ => hka B hB, fun _ h => .inr h, fun _ h => .inr h, fun _ h => .inl h, fun _ _ h => .inl h, Nat.le_refl _, rfl, rfl, ⟨rfl, rfl⟩⟩
  have Sd := st_drop S
  have hid : μ hp.nx = none := newS_free S.h
  have hw1 : w1.heap = wa.heap.push (.loop L) := rfl
  have hw1s : w1.heap.size = w.heap.size + 2 := by rw [hw1, Array.size_push, hsa]
  have hk1 : ∀ B, B < w.heap.size → w1.heap[B]? = w.heap[B]? := fun B hB => by
    rw [hw1, Array.getElem?_push, if_neg (by omega)]; exact hka B hB
  obtain ⟨H1, E1⟩ := Ha.new (w' := w1) (B := .loop 0 C.self (ps.getD 0 0) fr) (m := m) hid hw1 hset1 hlt1 hsa.symm ⟨m, L, upd_self _ _ _, by
      show w1.heap[w.heap.size + 1]? = _
      rw [hw1, Array.getElem?_push, if_pos hsa.symm], hnF, ⟨fn, c, ps.toList, x, y, hself, hbody, hrf, rfl, rfl, rfl⟩, by
      show (vs C.self).headD 0 ≤ a.tmps.size
      rw [hv]; exact S.nt, fun t j e => by
      have e' : idxOf t C.vars 0 = .f j := by
        have e : idxOf t (vs C.self).tail 0 = .f j := e
        rw [hv] at e; exact e
      have h1 := Sd.sl t
      have h2 : sig C .e .lf fr t = sv 0 (idxOf t C.vars 0) .lf fr := rfl
      rw [h2, e'] at h1
      have h3 : CRel w F μ (fr.at j) (a.tmps.getD t undef) := h1
      exact h3.mono (fun B hB => hk1 B (S.h.imm B hB)) (fun _ h => h) (upd_le m hid), rfl, rfl⟩
  have Ea1 := Ea.trans E1
  -- the call
  have hc := ov_rel X.gl (a := a) f (fun t _ => S.sl t)
  rw [hfv] at hc
  have hA : Args w1 F (upd μ hp.nx m) (.nd (.x 5 .lf hp.nx 0 0) .lf .lf) #[.func (.yield (w.heap.size + 1)) #[] #[]] := by
    refine ⟨rfl, fun i u hi => ?_⟩
    cases i with
    | zero =>
      have : u = .func (.yield (w.heap.size + 1)) #[] #[] := by simpa using hi.symm
      subst this
      exact .yld (m := m) (upd_self _ _ _)
    | succ i => simp at hi
  obtain ⟨fs, cs, hfe, hargs⟩ := args_splice (hc.ext S.h Ea1) hA q2 q3
  refine ⟨w.heap.size + 1, [{ target := .collected w.heap.size, args := #[] }], w1, { target := .fn (.func fid) cs, args := fs ++ #[.func (.yield (w.heap.size + 1)) #[] #[]] }, w1, fid, fs ++ #[.func (.yield (w.heap.size + 1)) #[] #[]] ++ cs, w1, run_enterLoop, ?_, fun _ _ => trivial, ?_, (fun h => by cases h), ?_⟩
  · show (Deferred.ofValue (a.eval f) (#[Operand.const (.func (.yield (w.heap.size + 1)) #[] #[])].map a.eval)).run C.P w1 = _
    rw [hfe]
    simp [Deferred.ofValue, Act.eval]
  · exact run_callFunc hcan _ _
  · refine callsIn_wf ((hd w1 (upd μ hp.nx m) F _ (n - 1) H1 hargs).mono fun e w3 ⟨xx, e1, μ2, F2, hv2, hids, H2, E2⟩ => ?_)
    subst e1
    have hm2 : μ2 hp.nx = some m := E2.mu _ _ (upd_self _ _ _)
    have hpr2 : hp2.pr = h1'.pr := E2.pr
    have hprb : hp.nx ∉ hp2.pr := by rw [hpr2]; exact hpr1
    obtain ⟨L2, hL2, hrel2, _⟩ := loop_set H2 hB2 hprb hm2
    let w4 : World := { w3 with heap := w3.heap.setIfInBounds m.blk (.loop { L2 with state := .exhausted }) }
    obtain ⟨H3, E3⟩ := H2.set (w' := w4) (B := .dead) (by rw [hB2]; exact trivial) hprb hm2 (by show (w3.heap.setIfInBounds _ _).size = _; simp) (fun X hX => by
      show (w3.heap.setIfInBounds m.blk _)[X]? = _
      rw [Array.getElem?_setIfInBounds, if_neg (Ne.symm hX)]) hset3 trivial
    have E23 := E2.trans E3
    have Et := Ea1.trans E23
    have hwb1 : ¬ WB h1' (upd μ hp.nx m) w.heap.size := fun ⟨b', m', _, hm', e⟩ => by
      by_cases eb : b' = hp.nx
      · subst eb
        rw [upd_self] at hm'; cases hm'
        have : m.blk = w.heap.size + 1 := rfl
        omega
      · rw [upd_ne μ m eb] at hm'
        have := (S.h.dom _ _ hm').2
        omega
    have EC : ExtC μ F hp w μ2 F2 h3' w4 := .of Et fun b hb => by
      rcases hids b hb with h | h
      · by_cases eb : b = hp.nx
        · exact .inr (by omega)
        · rw [upd_ne μ m eb] at h; exact .inl h
      · exact .inr (Nat.le_trans hset1.nx h)
    have SA : At C vs s0 μ0 F0 h0 w0 .e .lf fr h3' { a with defers := [{ target := .collected w.heap.size, args := #[] }] ++ a.defers } w4 := by
      refine ⟨μ2, F2, ⟨GInv.e, fun t => (Sd.sl t).ext S.h Et, H3, S.nt, ⟨⟨w.heap.size, rfl, E.ext.size, by have := E23.size; omega, ?_, fun hw => ?_, fun hF => ?_, fun d' hd' e => ?_⟩, S.df.ext Et⟩⟩, E.trans EC⟩
      · rw [E23.keep w.heap.size (by omega) fun ho => hwb1 ho.wb, hw1, Array.getElem?_push, if_neg (by omega)]
        show (w.heap.push _)[w.heap.size]? = _
        rw [Array.getElem?_push, if_pos rfl]
      · rcases E23.wb _ hw with h | h
        · omega
        · exact hwb1 h
      · rcases E23.newF _ hF with h | h | h
        · have := S.h.imm _ h; omega
        · omega
        · exact hwb1 h
      · obtain ⟨r, r1, r2⟩ := marks_lt S.df d' hd'
        rw [r1] at e
        cases e; omega
    cases st with
    | zero =>
      have hs : L2.state = .ready ∧ L2.pending = none := hrel2.2.2.2
      refine ⟨L2.pending, w4, run_endLoop hL2 (.inl hs.1), ?_⟩
      rw [hs.2]
      exact hN .e .lf fr h3' _ w4 h10 SA
    | succ s =>
      cases s with
      | zero => exact fail_out hR h10
      | succ s =>
        cases s with
        | zero =>
          have hs : L2.state = .done ∧ L2.pending = some .ret := hrel2.2.2.2
          refine ⟨L2.pending, w4, run_endLoop hL2 (.inr hs.1), ?_⟩
          rw [hs.2]
          exact wpIn_ret (hT fr h3' _ w4 h10 SA)
        | succ s =>
          have hs : L2.state = .done ∧ ((∃ id, s = 2 * id ∧ L2.pending = some (.exit id)) ∨ (∃ l, s = 2 * l + 1 ∧ L2.pending = some (.goto l))) := hrel2.2.2.2
          have h11 : goOn ex s fr h3' = R := h10
          rw [goOn_eq] at h11
          refine ⟨L2.pending, w4, run_endLoop hL2 (.inr hs.1), ?_⟩
          rcases hs.2 with ⟨id, e1, e2⟩ | ⟨l, e1, e2⟩
          · rw [e2]
            subst e1
            exact wpIn_exit (hE id fr h3' _ w4 h11 SA)
          · rw [e2]
            subst e1
            exact wpIn_goto (hG l fr h3' _ w4 h11 SA)
end
end Go.Proofs.YtkgnabjcogmobaaGreat.Ev

/- Functions, as they are met. -/
namespace Go.Proofs.YtkgnabjcogmobaaGreat.Ev
noncomputable def rfFree (C : Cx) : Bool := match getO C.P.funcs.toList C.self with
  | none => true
  | some fn => match fn.body with
    | none => true
    | some c => noRF c
noncomputable def nameOk (C : Cx) : Bool := match getO C.P.funcs.toList C.self with
  | none => true
  | some fn => !(fn.name == "runtime.NumGoroutine")
section
variable {C : Cx} {vs : Nat → List Nat}
theorem cx_ok (ok : MemOk C.M) (gl : C.gl = []) (mo : C.P.follows .mixedOrders = true) (hfn : ∀ p ∈ C.fn, FnOk (C.env vs) p.1 p.2) (hy : ∀ p ∈ C.yl, YldOk (C.env vs) p.1 p.2.1 p.2.2) : CxOk C vs :=
  ⟨ok, gl, mo, callsOk ok hfn (yields_ok ok hy)⟩
theorem fnS_ok (ok : MemOk C.M) (gl : C.gl = []) (mo : C.P.follows .mixedOrders = true) (hfn : ∀ p ∈ C.fn, FnOk (C.env vs) p.1 p.2) (hy : ∀ p ∈ C.yl, YldOk (C.env vs) p.1 p.2.1 p.2.2) (hname : nameOk C = true) (hv : rfFree C = true ∨ vs C.self = C.nt :: C.vars) : FnOk (C.env vs) C.self (fnS C) := by
  refine fnS_ok' (cx_ok ok gl mo hfn hy) (fun fn hf => ?_) fun fn c n hf hc hlen z hz => ?_
  · unfold nameOk at hname
    have e : getO C.P.funcs.toList C.self = some fn := by rw [getO_eq, Array.getElem?_toList]; exact hf
    rw [e] at hname
    simpa using hname
  · rcases hv with h | h
    · unfold rfFree at h
      have e : getO C.P.funcs.toList C.self = some fn := by rw [getO_eq, Array.getElem?_toList]; exact hf
      rw [e] at h
      simp only [hc] at h
      rw [noRF_out h] at hz
      cases hz
    · exact RunOk.rangeFunc (cx_ok ok gl mo hfn hy) hfn h hf hc ((rf_find c).2 hlen z hz)
theorem yld_ok {i : Nat} (ok : MemOk C.M) (gl : C.gl = []) (mo : C.P.follows .mixedOrders = true) (hfn : ∀ p ∈ C.fn, FnOk (C.env vs) p.1 p.2) (hy : ∀ p ∈ C.yl, YldOk (C.env vs) p.1 p.2.1 p.2.2) (hv : vs C.self = C.nt :: C.vars) : YldOk (C.env vs) C.self i (yldS C i) := .mk (cx_ok ok gl mo hfn hy) hv
end
section
variable {V : Env}
theorem fn_nil : ∀ p ∈ ([] : List (Nat × FnS)), FnOk V p.1 p.2 := fun _ h => by cases h
theorem fn_cons {f : Nat} {G : FnS} {l : List (Nat × FnS)} (h : FnOk V f G) (t : ∀ p ∈ l, FnOk V p.1 p.2) : ∀ p ∈ (f, G) :: l, FnOk V p.1 p.2 := fun p hp => by
  rcases List.mem_cons.1 hp with rfl | hp
  · exact h
  · exact t p hp
theorem yl_nil : ∀ p ∈ ([] : List (Nat × Nat × YldS)), YldOk V p.1 p.2.1 p.2.2 := fun _ h => by cases h
theorem yl_cons {f i : Nat} {Y : YldS} {l : List (Nat × Nat × YldS)} (h : YldOk V f i Y) (t : ∀ p ∈ l, YldOk V p.1 p.2.1 p.2.2) : ∀ p ∈ (f, i, Y) :: l, YldOk V p.1 p.2.1 p.2.2 := fun p hp => by
  rcases List.mem_cons.1 hp with rfl | hp
  · exact h
  · exact t p hp
/-- Does it come to true? -/
noncomputable def isTrue : Res → Bool := fun r => Res.rec (motive := fun _ => Bool) (fun _ _ => false) (fun _ _ _ => false) (fun _ _ => false) (fun v _ => @AV.rec (fun _ => Bool) (fun _ => Unit) (fun _ _ => false) (fun b => b) (fun _ _ => false) (fun _ _ => false) (fun _ _ _ _ => false) (fun _ _ _ _ _ => false) (fun _ _ _ => false) (fun _ _ _ => false) (fun _ _ _ _ _ _ => false) () (fun _ _ _ _ _ _ => ()) v) false r
theorem isTrue_out {R : Res} (h : isTrue R = true) : ∃ hp, R = .val (.bool true) hp := by
  cases R with
  | val v hp =>
    cases v with
    | bool b => exact ⟨hp, by rw [show b = true from h]⟩
    | _ => exact Bool.noConfusion h
  | _ => exact Bool.noConfusion h
/-- A function without arguments that is known to come to true. -/
noncomputable def tru : FnS := ⟨fun l hp => Tr.rec (motive := fun _ => Res) (Hp.rec (motive := fun _ => Res) (fun t nx pr rb => Tr.rec (motive := fun _ => Res) (must (Nat.beq nx 0) (.val (.bool true) ⟨.lf, nx, pr, rb⟩)) (fun _ _ _ _ _ => .fail) t) hp) (fun _ _ _ _ _ => .fail) l⟩
theorem dead_at (nx : Nat) (pr : List Nat) (rb b : Nat) : Hp.at ⟨.lf, nx, pr, rb⟩ b = .dead := get_lf _ _
theorem dead_wb {nx : Nat} {pr : List Nat} {rb : Nat} {μ : Mu} {B : Nat} : ¬ WB ⟨.lf, nx, pr, rb⟩ μ B := fun ⟨b, m, h, _⟩ => by rw [dead_at] at h; exact h
theorem dead_rel {μ : Mu} {F : Nat → Prop} {nx : Nat} {pr : List Nat} {rb : Nat} {w : World} (hd : ∀ b, μ b = none) (hi : ∀ B, F B → B < w.heap.size) : HRel V μ F ⟨.lf, nx, pr, rb⟩ w :=
  ⟨fun b => by rw [dead_at]; exact trivial, fun b _ _ _ h => by rw [dead_at] at h; exact h.elim, fun b m hm => (by rw [hd] at hm; cases hm), hi⟩
theorem tru_ok {f : FuncId} {G : FnS} (hG : FnOk V f G) (h : isTrue (G.f .lf .empty) = true) : FnOk V f tru := by
  obtain ⟨hc, e⟩ := isTrue_out h
  obtain ⟨hcan, v, hc', e', H⟩ := hG .lf .empty _ e (by simp)
  cases e'
  intro l hp R hR hne
  cases l with
  | nd a b c => exact fail_out hne hR
  | lf =>
    obtain ⟨t, nx, pr, rb⟩ := hp
    cases t with
    | nd a b c => exact fail_out hne hR
    | lf =>
      obtain ⟨hn, h1⟩ := must_out hne (show must (Nat.beq nx 0) (.val (.bool true) ⟨.lf, nx, pr, rb⟩) = R from hR)
      rw [beqN] at hn
      subst hn
      refine ⟨hcan, _, _, h1.symm, fun w μ F args n hH ha => ?_⟩
      have hd : ∀ b, μ b = none := fun b => by
        cases hx : μ b with
        | none => rfl
        | some m => exact absurd (hH.dom b m hx).1 (Nat.not_lt_zero _)
      refine (H w μ F args n (dead_rel hd hH.imm) ha).mono fun e w' ⟨x, e1, μ', F', h2, h3, h4⟩ => ⟨x, e1, μ, F', ?_, dead_rel hd h3.imm, ⟨⟨fun _ _ h => h, h4.ext.fr, h4.ext.size, fun B hB _ => h4.ext.keep B hB fun ho => dead_wb ho.wb, fun B hB => absurd hB.wb dead_wb, fun B hB => absurd hB dead_wb, fun B hB => ?_, fun _ _ h => .inl h, Nat.le_refl _, rfl, rfl, h4.ext.io⟩, fun _ h => .inl h⟩⟩
      · cases h2; exact .bool true
      · rcases h4.ext.newF B hB with h | h | h
        · exact .inl h
        · exact .inr (.inl h)
        · exact absurd h dead_wb
/-- The whole: a function without arguments that comes to true. -/
theorem true_calls {f : FuncId} {G : FnS} (hG : FnOk V f G) (h : isTrue (G.f .lf .empty) = true) (w : World) : Calls V.P f #[] w fun e w' => e = .returned (.bool true) ∧ SameIo w w' ∧ w.heap.size ≤ w'.heap.size ∧ ∀ B, B < w.heap.size → w'.heap[B]? = w.heap[B]? := by
  obtain ⟨hc, e⟩ := isTrue_out h
  obtain ⟨_, v, hc', e', H⟩ := hG .lf .empty _ e (by simp)
  cases e'
  have h0 := H w noMu (fun _ => False) #[] 0 (dead_rel (fun _ => rfl) (fun _ h => h.elim)) ⟨rfl, fun i u hu => by simp at hu⟩
  have h1 : CallsIn Fence.wide 0 V.P f #[] w fun e w' => ∃ x, e = .returned x ∧ ∃ μ' F', CRel w' F' μ' (.bool true) x ∧ HRel V μ' F' hc w' ∧ ExtC noMu (fun _ => False) .empty w μ' F' hc w' := h0
  exact (callsIn_wide.1 h1).mono fun e w' ⟨x, e1, μ', F', h2, _, h4⟩ => by
    subst e1
    cases h2
    exact ⟨rfl, h4.ext.io, h4.ext.size, fun B hB => h4.ext.keep B hB fun ho => empty_wr ho.wb⟩
end
end Go.Proofs.YtkgnabjcogmobaaGreat.Ev
