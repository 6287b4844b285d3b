import Derived.Test.YtbamejikafhenaaDoorEvAH
namespace Go.Proofs.YtbamejikafhenaaDoor.Ev
structure nV where
  n : Nat
  D : List Deferred
  free : ∀ d ∈ D, ∀ r, d.target ≠ .collected r
def nV.of (n : Nat) : nV := ⟨n, [], fun _ h => (by cases h)⟩
def nV.at (s : nV) (n : Nat) : nV := ⟨n, s.D, s.free⟩
def lE (s0 : nV) (h : Hp) (μ : Mu) (F : Nat → Prop) (w : World) : List Deferred → Prop
  | [] => True
  | d :: ds => (∃ r, d.target = .collected r ∧ s0.n ≤ r ∧ r < w.heap.size ∧ w.heap[r]? = some (.deferred (some [])) ∧ ¬ WB h μ r ∧ ¬ F r ∧ ∀ d' ∈ ds, d'.target ≠ .collected r) ∧ lE s0 h μ F w ds
theorem lE.ext {s0 : nV} {h h' : Hp} {μ μ' : Mu} {F F' : Nat → Prop} {w w' : World} (e : Ext μ F h w μ' F' h' w') : ∀ {ds : List Deferred}, lE s0 h μ F w ds → lE s0 h' μ' F' w' ds
  | [], _ => trivial
  | d :: ds, ⟨⟨r, h1, h2, h3, h4, h5, h6, h7⟩, hr⟩ => by
    refine ⟨⟨r, h1, h2, Nat.lt_of_lt_of_le h3 e.size, (e.dC r h3 fun ho => h5 ho.wb).trans h4, fun hw => ?_, fun hF => ?_, h7⟩, hr.ext e⟩
    · rcases e.wb r hw with h | h
      · omega
      · exact h5 h
    · rcases e.tA r hF with h | h | h
      · exact h6 h
      · omega
      · exact h5 h
def Marks (s0 : nV) (h : Hp) (μ : Mu) (F : Nat → Prop) (w : World) (ds : List Deferred) : Prop := ∃ ms, ds = ms ++ s0.D ∧ lE s0 h μ F w ms
theorem Marks.ext {s0 : nV} {h h' : Hp} {μ μ' : Mu} {F F' : Nat → Prop} {w w' : World} (e : Ext μ F h w μ' F' h' w') {ds : List Deferred} : Marks s0 h μ F w ds → Marks s0 h' μ' F' w' ds := fun ⟨ms, e1, e2⟩ => ⟨ms, e1, e2.ext e⟩
structure St (C : Cx) (V : Env) (s0 : nV) (g : G) (sk : Row) (fr : Fr) (hp : Hp) (μ : Mu) (F : Nat → Prop) (a : Act) (w : World) : Prop where
  gi : gC C g
  sl : ∀ t, ao w F μ (sig C g sk fr t) (a.tmps.getD t undef)
  h : aP V μ F hp w
  nt : C.nt ≤ a.tmps.size
  df : Marks s0 hp μ F w a.defers
def Hp.vP (h : Hp) (r : Nat) : Hp := ⟨h.t, h.nx, h.pr, r⟩
structure kF (μ : Mu) (F : Nat → Prop) (h : Hp) (w : World) (μ' : Mu) (F' : Nat → Prop) (h' : Hp) (w' : World) : Prop where
  ext : Ext μ F h w μ' F' (h'.vP h.rb) w'
  ids : ∀ b, μ' b ≠ none → μ b ≠ none ∨ h.nx ≤ b
theorem Ext.vP {μ μ' : Mu} {F F' : Nat → Prop} {h h' : Hp} {w w' : World} {r' : Nat} (e : Ext μ F h w μ' F' (h'.vP r') w') (q : Nat) : Ext μ F (h.vP q) w μ' F' (h'.vP q) w' :=
  ⟨e.mu, e.fr, e.size, e.dC, e.own, e.wb, e.tA, e.pd, e.nx, e.pr, rfl, e.io⟩
theorem kF.refl (μ : Mu) (F : Nat → Prop) (h : Hp) (w : World) : kF μ F h w μ F h w := ⟨Ext.refl μ F h w, fun _ h => .inl h⟩
theorem kF.trans {μ μ₁ μ₂ : Mu} {F F₁ F₂ : Nat → Prop} {h h₁ h₂ : Hp} {w w₁ w₂ : World} (a : kF μ F h w μ₁ F₁ h₁ w₁) (b : kF μ₁ F₁ h₁ w₁ μ₂ F₂ h₂ w₂) : kF μ F h w μ₂ F₂ h₂ w₂ :=
  ⟨a.ext.trans (b.ext.vP (r' := h₁.rb) h.rb), fun x hx => (b.ids x hx).elim (a.ids x) fun h => .inr (Nat.le_trans a.ext.nx h)⟩
theorem kF.of {μ μ' : Mu} {F F' : Nat → Prop} {h h' : Hp} {w w' : World} (e : Ext μ F h w μ' F' h' w') (i : ∀ b, μ' b ≠ none → μ b ≠ none ∨ h.nx ≤ b) : kF μ F h w μ' F' h' w' :=
  ⟨⟨e.mu, e.fr, e.size, e.dC, e.own, e.wb, e.tA, e.pd, e.nx, e.pr, rfl, e.io⟩, i⟩
theorem aP.vP {V : Env} {μ : Mu} {F : Nat → Prop} {h : Hp} {w : World} (H : aP V μ F h w) (r : Nat) : aP V μ F (h.vP r) w := ⟨H.c8, H.kr, H.nM, H.qt, H.ve⟩
theorem lE.vP {s0 : nV} {h : Hp} {μ : Mu} {F : Nat → Prop} {w : World} {r : Nat} : ∀ {ds : List Deferred}, lE s0 (h.vP r) μ F w ds → lE s0 h μ F w ds
  | [], _ => trivial
  | _ :: _, ⟨h1, h2⟩ => ⟨h1, h2.vP⟩
theorem Marks.vP {s0 : nV} {h : Hp} {μ : Mu} {F : Nat → Prop} {w : World} {r : Nat} {ds : List Deferred} : Marks s0 (h.vP r) μ F w ds → Marks s0 h μ F w ds := fun ⟨ms, e1, e2⟩ => ⟨ms, e1, e2.vP⟩
def ri (O : Operand → AV) (ops : Array Oper) (o : Oper) (b : Bool) : Prop := ∀ {w : World} {F : Nat → Prop} {μ : Mu} {a : Act}, (∀ j want t, o.guard = some (j, want) → (ops[j]?).bind (·.dst) = some t → ao w F μ (O (.tmp t)) (a.tmps.getD t undef)) → Region.wanted o (yielded ops a.tmps) = b
inductive iV (V : Env) (ops : Array Oper) (O : Operand → AV) (o : Oper) (id : Nat) (hp : Hp) (v : AV) (hp' : Hp) : Nat → Prop
  | run {kd : Nat} (hw : ri O ops o true) (hd : ∀ c, o.op ≠ .defer c) (k : o8 V O o id hp v hp' kd) : iV V ops O o id hp v hp' kd
  | skip (hw : ri O ops o false) (hv : v = dw) (hh : hp' = hp) : iV V ops O o id hp v hp' 0
theorem iV.wp {V : Env} {ops : Array Oper} {O : Operand → AV} {o : Oper} {id : Nat} {hp : Hp} {v : AV} {hp' : Hp} {kd : Nat} (s : iV V ops O o id hp v hp' kd) {i : Nat} (hi : ops[i]? = some o) {w : World} {F : Nat → Prop} {μ : Mu} {a : Act} {r : Option Nat} {n : Nat} {Q : Exit → Act → World → Prop} {K : Act → World → Prop}
    (hO : qw w F μ O o.op.operands.toList a.eval) (hG : ∀ j want t, o.guard = some (j, want) → (ops[j]?).bind (·.dst) = some t → ao w F μ (O (.tmp t)) (a.tmps.getD t undef)) (hid : μ id = none) (H : aP V μ F hp w)
    (hK : ∀ x w' μ' F', ao w' F' μ' v x → kN id hp μ μ' → aP V μ' F' hp' w' → Ext μ F hp w μ' F' hp' w' → K (a.put o.dst x) w') : wpOpIn (Wf r) n V.P ops Q i K a w := by
  unfold wpOpIn
  rw [hi]
  cases s with
  | run hw hd k =>
    simp only [hw hG, if_true]
    exact k.wp hd hO hid H hK
  | skip hw hv hh =>
    subst hv; subst hh
    simp only [hw hG, Bool.false_eq_true, if_false]
    exact ⟨fun _ _ => trivial, hK undef w μ F tw (kN.refl _ _ _) H (Ext.refl _ _ _ _)⟩
theorem a9l {t : Array Value} {i : Nat} {b : Bool} (h : t.getD i undef = .bool b) : t[i]? = some (.bool b) := by
  rw [Array.getD_eq_getD_getElem?] at h
  cases hx : t[i]? with
  | none => rw [hx] at h; cases h
  | some v => rw [hx] at h; exact congrArg some h
section
variable {C : Cx} {R : aa} (hR : R ≠ .fail) {ops : Array Oper}
include hR
theorem uz {g : G} {P : Pt} {k s : Sm} {sk : Row} {fr : Fr} {hp : Hp} {o : Oper} {j : Nat} {want : Bool} (hg : o.guard = some (j, want)) (h : (guarded C g P k s ((ops[j]?).bind (·.dst)) want).run sk fr hp = R) :
    (ri (ov C g sk fr) ops o true ∧ s.run sk fr hp = R) ∨ (ri (ov C g sk fr) ops o false ∧ P.f k sk fr hp dw = R) := by
  cases ht : (ops[j]?).bind (·.dst) with
  | none => rw [ht] at h; exact an hR h
  | some t =>
    rw [ht] at h
    obtain ⟨h1, _, _⟩ := s8 hR (k := fun v => v.on (fun _ _ => .fail) (fun b => when (a15 b want) (P.f k sk fr hp dw) (s.run sk fr hp)) (fun _ _ => .fail) (fun _ _ => .fail) (fun _ _ _ _ => .fail) (fun _ _ _ _ => .fail) (fun _ _ => .fail) (fun _ _ => P.f k sk fr hp dw) (fun _ _ _ _ _ => .fail)) h
    have hslot : ov C g sk fr (.tmp t) = sv g.d (look C g t) sk fr := rfl
    have wants : ∀ {b : Bool}, (∀ {w : World} {F : Nat → Prop} {μ : Mu} {u : Value}, ao w F μ (sv g.d (look C g t) sk fr) u → (∃ y, u = .bool y ∧ (y == want) = b) ∨ ((∀ y, u ≠ .bool y) ∧ b = false)) → ri (ov C g sk fr) ops o b := by
      intro b hb w F μ a hG
      have hc := hG j want t hg ht
      rw [hslot] at hc
      unfold Region.wanted
      rw [hg]
      simp only
      unfold yielded
      rw [ht]
      simp only [Option.bind_some]
      rcases hb hc with ⟨y, hy, e⟩ | ⟨hy, rfl⟩
      · rw [a9l hy]
        simp only
        rw [← e]
        cases y <;> cases want <;> rfl
      · cases hx : a.tmps[t]? with
        | none => rfl
        | some x =>
          have hx2 : a.tmps.getD t undef = x := by rw [Array.getD_eq_getD_getElem?, hx]; rfl
          rw [hx2] at hy
          cases x <;> first | rfl | exact absurd rfl (hy _)
    revert h1 wants
    generalize sv g.d (look C g t) sk fr = v
    intro h1 wants
    cases v with
    | bool b =>
      rcases aM hR (show when (a15 b want) (P.f k sk fr hp dw) (s.run sk fr hp) = R from h1) with ⟨e, h2⟩ | ⟨e, h2⟩
      · refine .inr ⟨wants fun hc => .inl ⟨b, jz hc, ?_⟩, h2⟩
        rw [vM] at e
        cases b <;> cases want <;> simp_all
      · refine .inl ⟨wants fun hc => .inl ⟨b, jz hc, ?_⟩, h2⟩
        rw [vM] at e
        cases b <;> cases want <;> simp_all
    | bB l n => exact .inr ⟨wants fun hc => .inr ⟨fun y e => (by subst e; cases hc), rfl⟩, h1⟩
    | _ => exact an hR h1
end
theorem mH {O : Operand → AV} {ops : Array Oper} {o : Oper} (h : o.guard = none) : ri O ops o true := fun _ => by unfold Region.wanted; rw [h]
def mG (C : Cx) (V : Env) : Prop := ∀ {g : G} {P : Pt} {k : Sm} {R : aa} {sk : Row} {fr : Fr} {hp : Hp} {id : Nat} (o : Oper) (f : Operand) (as : Array Operand) (ts : Array TypeId), R ≠ .fail → o.op = .call ⟨.value f, as, ts⟩ → (a8D C g P k f as).run sk fr hp = R → Out C V g P k sk fr o id hp R
def vD (C : Cx) (V : Env) (ops : Array Oper) (g : G) (sk : Row) (fr : Fr) (o : Oper) (id : Nat) (hp : Hp) (k : G → Sm) (R : aa) : Prop :=
  ∃ g' sk' fr' v hp' kd, (k g').run sk' fr' hp' = R ∧ iV V ops (ov C g sk fr) o id hp v hp' kd ∧ age kd (cls C.P o.op) ∧ gC C g' ∧ nq (sig C g sk fr) (sig C g' sk' fr') o.dst v ∧ ∀ t, o.dst = some t → t < C.nt
section
variable {C : Cx} {vs : Vs} {R : aa} (ok : cW C.M) (hR : R ≠ .fail) {ops : Array Oper}
theorem a68 (_ : R ≠ .fail) {g : G} (hg : gC C g) {o : Oper} {rest : List Oper} {a : Nat × Src} (ha : alias C g o rest = some a) (hnt : a.1 < C.nt) {sk : Row} {fr : Fr} {hp : Hp} {id : Nat} {k : G → Sm} (h : (k ⟨g.d, a :: dropKey a.1 g.m⟩).run sk fr hp = R) : vD C (C.env vs) ops g sk fr o id hp k R := by
  obtain ⟨x, hop, hgd, hdst, hgi, hsl⟩ := a02 hg ha sk fr
  have hd : ∀ c, o.op ≠ .defer c := by rcases hop with e | e <;> rw [e] <;> simp
  refine ⟨_, sk, fr, _, hp, 0, h, .run (mH hgd) hd (.pure rfl fun {w F μ ρ} hO => ⟨.value (ρ x), _, ?_, .inl rfl, hO x (by rcases hop with e | e <;> rw [e] <;> simp [Op.operands])⟩), .inl rfl, hgi, hsl, fun t e => by rw [hdst] at e; cases e; exact hnt⟩
  rcases hop with e | e <;> simp only [execOp, e, Sem.run_pure]
include ok hR
theorem a7P {g : G} (hg : gC C g) {N : NK} {id : Nat} {sk : Row} {fr : Fr} {hp : Hp} {o : Oper} {k : G → Sm} (hrun : ri (ov C g sk fr) ops o true) (hout : ∀ {P : Pt} {k : Sm}, (iO C g P N k o.op).run sk fr hp = R → Out C (C.env vs) g P k sk fr o id hp R)
    (h : (iO C g (dst C g o.dst).p N (k (dst C g o.dst).g) o.op).run sk fr hp = R) : vD C (C.env vs) ops g sk fr o id hp k R := by
  have _ := ok
  obtain ⟨v, hp', kd, h1, h2, h3, h4⟩ := hout h
  obtain ⟨g', sk', fr', h5, h6, h7, h8⟩ := rG hR hg h1
  exact ⟨g', sk', fr', v, hp', kd, h5, .run hrun h4 h2, h3, h6, h7, h8⟩
theorem a9f {g : G} (hg : gC C g) {id : Nat} {sk : Row} {fr : Fr} {hp : Hp} {o : Oper} {k : G → Sm} (hskip : ri (ov C g sk fr) ops o false)
    (h : (dst C g o.dst).p.f (k (dst C g o.dst).g) sk fr hp dw = R) : vD C (C.env vs) ops g sk fr o id hp k R := by
  have _ := ok
  obtain ⟨g', sk', fr', h5, h6, h7, h8⟩ := rG hR hg h
  exact ⟨g', sk', fr', _, hp, 0, h5, .skip hskip rfl rfl, .inl rfl, h6, h7, h8⟩
theorem adI (hc : mG C (C.env vs)) {g : G} (hg : gC C g) {N : NK} {id : Nat} {sk : Row} {fr : Fr} {hp : Hp} (hN : iQ N hp id) {o : Oper} {rest : List Oper} {k : G → Sm} (h : (a69 C ops g N o rest k).run sk fr hp = R) : vD C (C.env vs) ops g sk fr o id hp k R := by
  have hout : ∀ {P : Pt} {k : Sm}, (iO C g P N k o.op).run sk fr hp = R → Out C (C.env vs) g P k sk fr o id hp R := fun h => tB ok hR hN o (fun f as ts hop hh => hc o f as ts hR hop hh) h
  unfold a69 at h
  split at h
  · rename_i a ha
    obtain ⟨hb, h'⟩ := dy hR h
    rw [bA] at hb
    exact a68 hR hg ha hb h'
  · have e : (match dst C g o.dst with
      | ⟨P, g'⟩ => (match o.guard with
        | none => iO C g P N (k g') o.op
        | some (j, want) => guarded C g P (k g') (iO C g P N (k g') o.op) ((ops[j]?).bind (·.dst)) want) : Sm).run sk fr hp = R := h
    have e' : (match o.guard with
        | none => iO C g (dst C g o.dst).p N (k (dst C g o.dst).g) o.op
        | some (j, want) => guarded C g (dst C g o.dst).p (k (dst C g o.dst).g) (iO C g (dst C g o.dst).p N (k (dst C g o.dst).g) o.op) ((ops[j]?).bind (·.dst)) want : Sm).run sk fr hp = R := e
    split at e'
    · rename_i hgd
      exact a7P ok hR hg (mH hgd) hout e'
    · rename_i j want hgd
      rcases uz hR hgd e' with ⟨hw, h1⟩ | ⟨hw, h1⟩
      · exact a7P ok hR hg hw hout h1
      · exact a9f ok hR hg hw h1
omit ok hR in
def yW (C : Cx) (vs : Vs) : Prop := ∀ p ∈ C.gl, (∃ t a b c, p.2 = .x 1 t a b c) ∧ ∀ w F μ, (C.env vs).Glo w F → ao w F μ p.2 (.pointer (some ⟨p.1, 0, none⟩))
omit ok hR in
theorem a7K {C : Cx} {g : G} {sk : Row} {fr : Fr} (n : Nat) : ov C g sk fr (.global n) = .uu ∨ ∃ p ∈ C.gl, p.1 = n ∧ ov C g sk fr (.global n) = p.2 := by
  have key : ∀ l : List (Nat × AV), sv g.d (List.rec (motive := fun _ => Src) .no (fun a _ ih => Bool.rec (motive := fun _ => Src) ih (.c a.2) (Nat.beq a.1 n)) l) sk fr = .uu ∨ ∃ p ∈ l, p.1 = n ∧ sv g.d (List.rec (motive := fun _ => Src) .no (fun a _ ih => Bool.rec (motive := fun _ => Src) ih (.c a.2) (Nat.beq a.1 n)) l) sk fr = p.2 := by
    intro l
    induction l with
    | nil => exact .inl rfl
    | cons y r ih =>
      have e : sv g.d (List.rec (motive := fun _ => Src) .no (fun a _ ih => Bool.rec (motive := fun _ => Src) ih (.c a.2) (Nat.beq a.1 n)) (y :: r)) sk fr = sv g.d (Bool.rec (motive := fun _ => Src) (List.rec (motive := fun _ => Src) .no (fun a _ ih => Bool.rec (motive := fun _ => Src) ih (.c a.2) (Nat.beq a.1 n)) r) (.c y.2) (Nat.beq y.1 n)) sk fr := rfl
      rw [e, eF]
      split
      · rename_i q
        exact .inr ⟨y, List.mem_cons_self .., by rw [aF] at q; exact q, rfl⟩
      · exact ih.imp id fun ⟨p, h1, h2⟩ => ⟨p, List.mem_cons_of_mem _ h1, h2⟩
  exact key C.gl
omit ok hR in
theorem a0U (hgl : yW C vs) {g : G} {sk : Row} {fr : Fr} {w : World} {F : Nat → Prop} {μ : Mu} {a : Act} (hG : (C.env vs).Glo w F) (x : Operand) (h : ∀ t, x = .tmp t → ao w F μ (sig C g sk fr t) (a.tmps.getD t undef)) : ao w F μ (ov C g sk fr x) (a.eval x) := by
  cases x with
  | tmp t => exact h t rfl
  | const v => exact aaM
  | func f => exact .fn (fun _ => undef) rfl rfl rfl (fun i hi => absurd hi (Nat.not_lt_zero _)) (fun i hi => absurd hi (Nat.not_lt_zero _)) fun i hi => absurd hi (Nat.not_lt_zero _)
  | global n =>
    rcases a7K (C := C) (g := g) (sk := sk) (fr := fr) n with e | ⟨p, hp, rfl, e⟩
    · rw [e]; exact .uu _
    · rw [e]; exact (hgl p hp).2 w F μ hG
omit ok hR in
theorem iz (a : Act) (d : Option Tmp) (x : Value) : (a.put d x).tmps.size = a.tmps.size ∧ (a.put d x).defers = a.defers := by
  cases d <;> simp [Act.put]
omit ok hR in
theorem aey {σ σ' : Nat → AV} {d : Option Nat} {v : AV} {x : Value} {a : Act} {m : Nat} {w w' : World} {F F' : Nat → Prop} {μ μ' : Mu} (hs : nq σ σ' d v) (hm : m ≤ a.tmps.size) (hd : ∀ t, d = some t → t < m) (hv : ao w' F' μ' v x)
    (hold : ∀ {b : AV} {u : Value}, ao w F μ b u → ao w' F' μ' b u) (h : ∀ t, ao w F μ (σ t) (a.tmps.getD t undef)) (t : Nat) : ao w' F' μ' (σ' t) ((a.put d x).tmps.getD t undef) := by
  by_cases e : d = some t
  · subst e
    rw [(hs t).1 rfl]
    have : (a.put (some t) x).tmps.getD t undef = x := by
      have hlt := hd t rfl
      simp only [Act.put, Array.getD_eq_getD_getElem?, Array.getElem?_setIfInBounds, if_true]
      rw [if_pos (by omega)]; rfl
    rw [this]; exact hv
  · have hsame : (a.put d x).tmps.getD t undef = a.tmps.getD t undef := by
      cases d with
      | none => rfl
      | some q =>
        have hne : q ≠ t := fun h => e (by rw [h])
        simp only [Act.put, Array.getD_eq_getD_getElem?, Array.getElem?_setIfInBounds, if_neg hne]
    rw [hsame]
    rcases (hs t).2 e with q | q
    · rw [q]; exact hold (h t)
    · rw [q]; exact .uu _
theorem zt (hc : mG C (C.env vs)) (hgl : yW C vs) {s0 : nV} {k : G → Sm} {Q : Exit → Act → World → Prop} {r : Option Nat} {n : Nat} : ∀ (l : List Oper) (i : Nat) {g : G} {sk : Row} {fr : Fr} {hp : Hp} {μ : Mu} {F : Nat → Prop} {a : Act} {w : World}, (∀ j o, l[j]? = some o → ops[i + j]? = some o) →
    (oC C ops l g k).run sk fr hp = R → St C (C.env vs) s0 g sk fr hp μ F a w →
    (∀ g' sk' fr' hp' μ' F' a' w', (k g').run sk' fr' hp' = R → St C (C.env vs) s0 g' sk' fr' hp' μ' F' a' w' → kF μ F hp w μ' F' hp' w' → a'.defers = a.defers → Q .normal a' w') → wpOpsIn (Wf r) n C.P ops Q (List.range' i l.length) a w
  | [], i, g, sk, fr, hp, μ, F, a, w, _, h, S, hQ => hQ g sk fr hp μ F a w h S (kF.refl _ _ _ _) rfl
  | o :: l, i, g, sk, fr, hp, μ, F, a, w, hl, h, S, hQ => by
    have h' : (a69 C ops g (aY C.M) o l fun g => oC C ops l g k).run sk fr hp = R := h
    obtain ⟨g', sk', fr', v, hp', kd, h1, h2, _, h4, h5, h6⟩ := adI (vs := vs) ok hR hc S.gi (a1S ok) h'
    rw [List.length_cons, List.range'_succ, wpOpsIn_cons]
    refine h2.wp (hl 0 o rfl) (fun x hx => a0U hgl S.h.ve x fun t _ => S.sl t) (fun j want t _ _ => S.sl t) (ti S.h) S.h fun x w' μ' F' hv hid hH hE => ?_
    have hEC : kF μ F hp w μ' F' hp' w' := .of hE fun b hb => (hid b hb).imp (fun h => h) fun h => h.elim (fun h => by omega) fun h => h
    have S' : St C (C.env vs) s0 g' sk' fr' hp' μ' F' (a.put o.dst x) w' :=
      ⟨h4, aey h5 S.nt h6 hv (fun h => h.ext S.h hE) S.sl, hH, by rw [(iz a o.dst x).1]; exact S.nt, by rw [(iz a o.dst x).2]; exact S.df.ext hE⟩
    exact zt hc hgl l (i + 1) (fun j o' hj => by rw [show i + 1 + j = i + (j + 1) by omega]; exact hl (j + 1) o' hj) h1 S' fun g'' sk'' fr'' hp'' μ'' F'' a'' w'' q1 q2 q3 q4 => hQ _ _ _ _ _ _ _ _ q1 q2 (hEC.trans q3) (q4.trans (iz a o.dst x).2)
end
def bX.gone : bX → Prop
  | .dead => True
  | _ => False
theorem mJ {B : bX} (h : B.gone) : ¬ B.wr := by cases B <;> first | exact h.elim | exact fun h => h
theorem tj {B : bX} (h : B.gone) : ¬ Live B := by cases B <;> first | exact h.elim | exact fun h => h
theorem a8H {B : bX} (h : Live B) : ¬ B.gone := by cases B <;> first | exact h.elim | exact fun h => h
def BEq (B B' : bX) : Prop := B = B' ∨ (B.gone ∧ B'.gone)
theorem BEq.refl (B : bX) : BEq B B := .inl rfl
theorem BEq.symm {B B' : bX} (h : BEq B B') : BEq B' B := h.imp Eq.symm And.symm
theorem BEq.trans {B B' B'' : bX} (h : BEq B B') (h' : BEq B' B'') : BEq B B'' := by
  rcases h with rfl | ⟨h1, h2⟩
  · exact h'
  · rcases h' with rfl | ⟨_, h4⟩
    · exact .inr ⟨h1, h2⟩
    · exact .inr ⟨h1, h4⟩
theorem BEq.gone {B B' : bX} (h : BEq B B') (hg : B.gone) : B'.gone := h.elim (fun e => e ▸ hg) And.right
theorem BEq.eq {B B' : bX} (h : BEq B B') (hl : ¬ B.gone) : B = B' := h.elim id fun h => absurd h.1 hl
theorem BEq.wr {B B' : bX} (h : BEq B B') (hw : B.wr) : B'.wr := h.elim (fun e => e ▸ hw) fun h => absurd hw (mJ h.1)
section
variable {V : Env} {w : World} {F : Nat → Prop} {μ : Mu}
theorem kT.gone {b : Nat} {B : bX} (h : B.gone) : kT V w F μ b B := by cases B <;> first | exact trivial | exact h.elim
theorem kT.beq {b : Nat} {B B' : bX} (h : BEq B B') (hB : kT V w F μ b B) : kT V w F μ b B' := h.elim (fun e => e ▸ hB) fun h => .gone h.2
theorem kT.some {b : Nat} {B : bX} (hB : kT V w F μ b B) (hg : ¬ B.gone) : ∃ m, μ b = some m := by
  cases B with
  | dead => exact absurd trivial hg
  | fwd i => exact hB.elim
  | row => obtain ⟨m, _, _, _, h, _⟩ := hB; exact ⟨m, h⟩
  | map => obtain ⟨m, _, _, h, _⟩ := hB; exact ⟨m, h⟩
  | loop => obtain ⟨m, _, h, _⟩ := hB; exact ⟨m, h⟩
theorem aP.congr {h h' : Hp} (H : aP V μ F h w) (he : ∀ b, BEq (h.at b) (h'.at b)) (hn : h.nx ≤ h'.nx) : aP V μ F h' w :=
  ⟨fun b => (H.c8 b).beq (he b), fun b b' m m' h1 h2 => H.kr b b' m m' ((he b).symm.wr h1) ((he b').symm.wr h2), fun b m hm => let ⟨q1, q2⟩ := H.nM b m hm; ⟨Nat.lt_of_lt_of_le q1 hn, q2⟩, H.qt, H.ve⟩
end
theorem aag {α : Type} (d : α) : ∀ (i : Nat) (t : Tr α) (x : α), ∃ t', jE d t i x t' := by
  intro i
  induction i using Nat.strongRecOn with
  | _ i ih =>
    intro t x
    have nd : ∀ (v : α) (l r : Tr α), ∃ t', jE d (.nd v l r) i x t' := fun v l r => by
      cases i with
      | zero => exact ⟨.nd x l r, fun j => by cases j <;> simp [Tr.get]⟩
      | succ j =>
        rcases vj j with hj | hj
        · obtain ⟨l', hl⟩ := ih (j / 2) (by omega) l x
          exact ⟨_, oS hj hl⟩
        · obtain ⟨r', hr⟩ := ih (j / 2) (by omega) r x
          exact ⟨_, lN hj hr⟩
    cases t with
    | lf => obtain ⟨t', h⟩ := nd d .lf .lf; exact ⟨t', qE h⟩
    | nd v l r => exact nd v l r
theorem abT (h : Hp) (f : Nat → bX) (nx : Nat) (pr : List Nat) (rb : Nat) : ∀ (l : List Nat), ∃ h' : Hp, h'.nx = nx ∧ h'.pr = pr ∧ h'.rb = rb ∧ ∀ b, (b ∈ l → h'.at b = f b) ∧ (b ∉ l → h'.at b = h.at b)
  | [] => ⟨⟨h.t, nx, pr, rb⟩, rfl, rfl, rfl, fun b => ⟨fun hb => absurd hb List.not_mem_nil, fun _ => rfl⟩⟩
  | c :: l => by
    obtain ⟨h1, q1, q2, q3, q4⟩ := abT h f nx pr rb l
    obtain ⟨t', ht⟩ := aag .dead c h1.t (f c)
    refine ⟨⟨t', nx, pr, rb⟩, rfl, rfl, rfl, fun b => ?_⟩
    have hb : (⟨t', nx, pr, rb⟩ : Hp).at b = if b = c then f c else h1.at b := ht b
    rw [hb]
    by_cases e : b = c
    · subst e; rw [if_pos rfl]; exact ⟨fun _ => rfl, fun h => absurd (List.mem_cons_self ..) h⟩
    · rw [if_neg e]
      exact ⟨fun h => (q4 b).1 ((List.mem_cons.1 h).resolve_left e), fun h => (q4 b).2 fun hm => h (List.mem_cons_of_mem _ hm)⟩
def Kept (B B' X : bX) : Prop := (∃ rw rw' fl fl' z z' s s' t t', B = .row rw fl z s t ∧ B' = .row rw' fl' z' s' t' ∧ X = .row rw' fl z s t) ∨ (∃ n n' t t', B = .map n t ∧ B' = .map n' t' ∧ X = .map n t)
theorem aP.frame {V : Env} {μ μ' : Mu} {F F' : Nat → Prop} {h hA hB hS' : Hp} {w w' : World} (H : aP V μ F h w) (HA : aP V μ F hA w) (HB : aP V μ' F' hB w') (E : Ext μ F hA w μ' F' hB w')
    (sub : ∀ b, ¬ (hA.at b).gone → hA.at b = h.at b) (hpr : ∀ b, b ∈ h.pr → b ∈ hA.pr) (hnx : h.nx ≤ hA.nx) (q1 : hS'.nx = hB.nx) (q2 : hS'.pr = h.pr) (q3 : hS'.rb = h.rb)
    (what : ∀ b, (hS'.at b).gone ∨ (hS'.at b = hB.at b ∧ (b ∈ hA.pr → b ∈ h.pr)) ∨ (hS'.at b = h.at b ∧ (hA.at b).gone) ∨ (b ∈ hA.pr ∧ Kept (hA.at b) (hB.at b) (hS'.at b))) :
    aP V μ' F' hS' w' ∧ Ext μ F h w μ' F' hS' w' := by
  have subwr : ∀ b, (hA.at b).wr → hA.at b = h.at b := fun b hw => sub b fun hg => mJ hg hw
  have ownA : ∀ B, Own hA μ B → Own h μ B := fun B ⟨b, m, h1, h2, h3, h4⟩ => ⟨b, m, subwr b h1 ▸ h1, fun hp => h2 (hpr b hp), h3, h4⟩
  have wbA : ∀ B, WB hA μ B → WB h μ B := fun B ⟨b, m, h1, h3, h4⟩ => ⟨b, m, subwr b h1 ▸ h1, h3, h4⟩
  have same := E.same HA
  have away : ∀ b m, (h.at b).wr → (hA.at b).gone → μ b = some m → ¬ WB hA μ m.c8 := fun b m hw hg hm ⟨b2, m2, h1, h2, h3⟩ => by
    have hne : b2 ≠ b := fun e => by subst e; exact mJ hg h1
    exact H.kr b2 b m2 m (subwr b2 h1 ▸ h1) hw hne h2 hm h3
  have keepRow : ∀ {b : Nat} {rw fl : Bool} {z s : Nat} {t : Row} {m : Mp} {c : Array Value} {T : TypeId} {fz : Nat × Nat}, (h.at b = .row rw fl z s t) → μ b = some m → w.heap[m.c8]? = some (.cells c T fz) → (rw = true → ¬ Own hA μ m.c8) → w'.heap[m.c8]? = some (.cells c T fz) := by
    intro b rw fl z s t m c T fz hb hm hc hno
    refine (E.dC m.c8 (H.nM b m hm).2 fun ho => ?_).trans hc
    have hbr := H.c8 b
    rw [hb] at hbr
    obtain ⟨m', c', T', fz', p1, _, _, _, _, _, p7⟩ := hbr
    rw [hm] at p1; cases p1
    cases rw with
    | true => exact hno rfl ho
    | false => exact HA.a4K ho.wb (p7 rfl)
  have c8 : ∀ b, kT V w' F' μ' b (hS'.at b) := by
    intro b
    rcases what b with hg | ⟨e, _⟩ | ⟨e, hg⟩ | ⟨hbp, hk⟩
    · exact .gone hg
    · rw [e]; exact HB.c8 b
    · rw [e]
      have hbr := H.c8 b
      by_cases hw : (h.at b).wr
      · obtain ⟨m, hm⟩ := hbr.some fun hg' => mJ hg' hw
        have hno : ¬ Own hA μ m.c8 := fun ho => away b m hw hg hm ho.wb
        have hnF : ¬ F' m.c8 := fun hF => by
          rcases E.tA _ hF with h1 | h1 | h1
          · exact H.a4K ⟨b, m, hw, hm, rfl⟩ h1
          · have := (H.nM b m hm).2; omega
          · exact away b m hw hg hm h1
        cases hX : h.at b with
        | dead => exact trivial
        | fwd i => rw [hX] at hbr; exact hbr.elim
        | row rw fl z s t =>
          rw [hX] at hbr hw
          obtain ⟨m', c, T, fz, p1, p2, p3, p4, p5, p6, p7⟩ := hbr
          rw [hm] at p1; cases p1
          have hrw : rw = true := hw
          exact ⟨m, c, T, fz, E.mu b m hm, keepRow hX hm p2 (fun _ => hno), p3, fun i hi => let ⟨u, u1, u2, u3⟩ := p4 i hi; ⟨u, u1, u2, u3.mono same E.fr E.mu⟩, p5, fun e => ⟨(p6 e).1, hnF⟩, fun e => by rw [hrw] at e; cases e⟩
        | map n t =>
          rw [hX] at hbr
          obtain ⟨m', es, clk, p1, p2, p3, p4, p5⟩ := hbr
          rw [hm] at p1; cases p1
          exact ⟨m, es, clk, E.mu b m hm, (E.dC m.c8 (H.nM b m hm).2 hno).trans p2, hnF, p4, fun i hi => let ⟨u, u1, u2, u3⟩ := p5 i hi; ⟨u, u1, u2.mono same E.fr E.mu, u3.mono same E.fr E.mu⟩⟩
        | loop st f i fr =>
          rw [hX] at hbr
          obtain ⟨m', L, p1, p2, p3, p4⟩ := hbr
          rw [hm] at p1; cases p1
          exact ⟨m, L, E.mu b m hm, (E.dC m.c8 (H.nM b m hm).2 hno).trans p2, hnF, p4.mono same E.fr E.mu⟩
      · cases hX : h.at b with
        | dead => exact trivial
        | fwd i => rw [hX] at hbr; exact hbr.elim
        | row rw fl z s t =>
          rw [hX] at hbr hw
          obtain ⟨m', c, T, fz, p1, p2, p3, p4, p5, p6, p7⟩ := hbr
          have hrw : rw = false := by cases rw with | false => rfl | true => exact absurd rfl hw
          exact ⟨m', c, T, fz, E.mu b m' p1, keepRow hX p1 p2 (fun e => by rw [hrw] at e; cases e), p3, fun i hi => let ⟨u, u1, u2, u3⟩ := p4 i hi; ⟨u, u1, u2, u3.mono same E.fr E.mu⟩, p5, fun e => (by rw [hrw] at e; cases e), fun e => E.fr _ (p7 e)⟩
        | map n t => rw [hX] at hw; exact absurd trivial hw
        | loop st f i fr => rw [hX] at hw; exact absurd trivial hw
    · -- a block that was kept
      have nown : ∀ m, μ b = some m → ((hA.at b).wr ∨ F m.c8) → ¬ Own hA μ m.c8 := fun m hm hor ⟨b2, m2, h1, h2, h3, h4⟩ => by
        have hne : b2 ≠ b := fun e => h2 (e ▸ hbp)
        rcases hor with hw | hF
        · exact HA.kr b2 b m2 m h1 hw hne h3 hm h4
        · exact HA.a4K ⟨b2, m2, h1, h3, h4⟩ hF
      have hbr := HA.c8 b
      have hbB := HB.c8 b
      rcases hk with ⟨rw, rw', fl, fl', z, z', s, s', t, t', e1, e2, e3⟩ | ⟨n, n', t, t', e1, e2, e3⟩
      · rw [e1] at hbr nown
        rw [e2] at hbB
        rw [e3]
        obtain ⟨m, c, T, fz, p1, p2, p3, p4, p5, p6, p7⟩ := hbr
        obtain ⟨m', c', T', fz', o1, o2, _, _, _, o6, o7⟩ := hbB
        have hm' := E.mu b m p1
        rw [hm'] at o1; cases o1
        have hkeep : w'.heap[m.c8]? = some (.cells c T fz) := (E.dC m.c8 (HA.nM b m p1).2 (nown m p1 (by cases rw with | true => exact .inl rfl | false => exact .inr (p7 rfl)))).trans p2
        rw [hkeep] at o2; cases o2
        exact ⟨m, c, T, fz, hm', hkeep, p3, fun i hi => let ⟨u, u1, u2, u3⟩ := p4 i hi; ⟨u, u1, u2, u3.mono same E.fr E.mu⟩, p5, o6, o7⟩
      · rw [e1] at hbr nown
        rw [e2] at hbB
        rw [e3]
        obtain ⟨m, es, clk, p1, p2, p3, p4, p5⟩ := hbr
        obtain ⟨m', _, _, o1, _, o3, _⟩ := hbB
        have hm' := E.mu b m p1
        rw [hm'] at o1; cases o1
        exact ⟨m, es, clk, hm', (E.dC m.c8 (HA.nM b m p1).2 (nown m p1 (.inl trivial))).trans p2, o3, p4, fun i hi => let ⟨u, u1, u2, u3⟩ := p5 i hi; ⟨u, u1, u2.mono same E.fr E.mu, u3.mono same E.fr E.mu⟩⟩
  have wr : ∀ b, (hS'.at b).wr → ((hB.at b).wr ∧ ¬ (hA.at b).gone ∧ b ∈ hA.pr ∧ (hA.at b).wr ∨ (hB.at b).wr ∧ (b ∈ hA.pr → b ∈ h.pr)) ∨ ((h.at b).wr ∧ (hA.at b).gone) := by
    intro b hw
    rcases what b with hg | ⟨e, hp⟩ | ⟨e, hg⟩ | ⟨hbp, hk⟩
    · exact absurd hw (mJ hg)
    · rw [e] at hw; exact .inl (.inr ⟨hw, hp⟩)
    · rw [e] at hw; exact .inr ⟨hw, hg⟩
    · left; left
      rcases hk with ⟨rw, rw', fl, fl', z, z', s, s', t, t', e1, e2, e3⟩ | ⟨n, n', t, t', e1, e2, e3⟩
      · rw [e3] at hw
        have hrw : rw' = true := hw
        subst hrw
        rw [e2, e1]
        refine ⟨rfl, fun h => h, hbp, ?_⟩
        cases rw with
        | true => rfl
        | false =>
          exfalso
          have hbr := HA.c8 b
          have hbB := HB.c8 b
          rw [e1] at hbr
          rw [e2] at hbB
          obtain ⟨m, c, T, fz, p1, p2, p3, p4, p5, p6, p7⟩ := hbr
          obtain ⟨m', c', T', fz', o1, o2, _, _, _, o6, o7⟩ := hbB
          have hm' := E.mu b m p1
          rw [hm'] at o1; cases o1
          exact (o6 rfl).2 (E.fr _ (p7 rfl))
      · rw [e2, e1]
        exact ⟨trivial, fun h => h, hbp, trivial⟩
  have wrB : ∀ b, (hS'.at b).wr → (hB.at b).wr ∨ ((h.at b).wr ∧ (hA.at b).gone) := fun b hw => (wr b hw).imp (fun h => h.elim And.left And.left) id
  have place : ∀ b, (h.at b).wr → ∃ m, μ b = some m := fun b hw => (H.c8 b).some fun hg => mJ hg hw
  have mixed : ∀ b b' m m', ((h.at b).wr ∧ (hA.at b).gone) → (hB.at b').wr → μ' b = some m → μ' b' = some m' → m.c8 ≠ m'.c8 := fun b b' m m' ⟨h1, h2⟩ h3 hm hm' e => by
    obtain ⟨m0, hm0⟩ := place b h1
    have := E.mu b m0 hm0
    rw [hm] at this; cases this
    rcases E.wb m.c8 ⟨b', m', h3, hm', e.symm⟩ with q | q
    · have := (H.nM b m hm0).2; omega
    · exact away b m h1 h2 hm0 q
  refine ⟨⟨c8, fun b b' m m' h1 h2 hne hm hm' => ?_, fun b m hm => by rw [q1]; exact HB.nM b m hm, HB.qt, HB.ve⟩, ⟨E.mu, E.fr, E.size, fun B hB ho => E.dC B hB fun hA => ho (ownA B hA), fun B ⟨b, m, h1, h2, h3, h4⟩ => ?_, fun B ⟨b, m, h1, h3, h4⟩ => ?_, fun B hF => (E.tA B hF).imp id fun h => h.imp id (wbA B), fun b m hm => (E.pd b m hm).imp id fun ⟨h1, h2⟩ => ⟨h1, h2.imp id (ownA _)⟩, by rw [q1]; exact Nat.le_trans hnx E.nx, q2, q3, E.io⟩⟩
  · rcases wrB b h1 with w1 | w1
    · rcases wrB b' h2 with w2 | w2
      · exact HB.kr b b' m m' w1 w2 hne hm hm'
      · exact (mixed b' b m' m w2 w1 hm' hm).symm
    · rcases wrB b' h2 with w2 | w2
      · exact mixed b b' m m' w1 w2 hm hm'
      · obtain ⟨m0, hm0⟩ := place b w1.1
        obtain ⟨m1, hm1⟩ := place b' w2.1
        have e0 := E.mu b m0 hm0
        have e1 := E.mu b' m1 hm1
        rw [hm] at e0; cases e0
        rw [hm'] at e1; cases e1
        exact H.kr b b' m m' w1.1 w2.1 hne hm0 hm1
  · rcases wr b h1 with (⟨w1, _, hp, w2⟩ | ⟨w1, hp⟩) | ⟨w1, hg⟩
    · obtain ⟨m0, hm0⟩ := place b (subwr b w2 ▸ w2)
      have := E.mu b m0 hm0
      rw [h3] at this; cases this
      exact .inr ⟨b, m, subwr b w2 ▸ w2, q2 ▸ h2, hm0, h4⟩
    · have hnA : b ∉ hB.pr := fun hb => h2 (q2 ▸ hp (E.pr ▸ hb))
      exact (E.own B ⟨b, m, w1, hnA, h3, h4⟩).imp id (ownA B)
    · obtain ⟨m0, hm0⟩ := place b w1
      have := E.mu b m0 hm0
      rw [h3] at this; cases this
      exact .inr ⟨b, m, w1, q2 ▸ h2, hm0, h4⟩
  · rcases wrB b h1 with w1 | ⟨w1, hg⟩
    · exact (E.wb B ⟨b, m, w1, h3, h4⟩).imp id (wbA B)
    · obtain ⟨m0, hm0⟩ := place b w1
      have := E.mu b m0 hm0
      rw [h3] at this; cases this
      exact .inr ⟨b, m, w1, hm0, h4⟩
theorem js (m i : Nat) : bit m i = m.testBit i := by
  rw [Nat.testBit_eq_decide_div_mod_eq]
  show Nat.beq (m / 2 ^ i % 2) 1 = decide (m / 2 ^ i % 2 = 1)
  exact rO _ _
theorem gj (a b : Bool) : (eP a b = true) = (a = true ∧ b = true) := by cases a <;> cases b <;> simp [eP]
theorem lU {α : Type} {f : α → Bool} : ∀ {l : List α}, uW f l = true → ∀ x ∈ l, f x = true
  | [], _, x, hx => by cases hx
  | a :: l, h, x, hx => by
    have h' : eP (f a) (uW f l) = true := h
    rw [gj] at h'
    rcases List.mem_cons.1 hx with rfl | hx
    · exact h'.1
    · exact lU h'.2 x hx
theorem a0O {α : Type} (d : α) : ∀ (l : List α) (i : Nat), vu d l i = (l[i]?).getD d
  | [], i => by cases i <;> rfl
  | a :: l, 0 => rfl
  | a :: l, i + 1 => by
    have := a0O d l i
    rw [List.getElem?_cons_succ]; exact this
theorem a7Q : ∀ (l acc : List Nat), rp l acc = l.reverse ++ acc
  | [], acc => rfl
  | a :: l, acc => by
    show rp l (a :: acc) = _
    rw [a7Q l (a :: acc), List.reverse_cons, List.append_assoc]; rfl
theorem wj {l : List Nat} {n a : Nat} : ∀ {es : List Edge}, bit (iw l n es) a = true → ∃ e ∈ es, iG e = true ∧ (a = e.on ∨ bit (vu 0 l (n - 1 - e.on)) a = true)
  | [], h => by
    rw [js] at h
    have : iw l n [] = 0 := rfl
    rw [this] at h; simp at h
  | e :: es, h => by
    have e0 : iw l n (e :: es) = if iG e = true then Nat.lor (iw l n es) (Nat.lor (Nat.pow 2 e.on) (vu 0 l (n - 1 - e.on))) else iw l n es := by
      show (Bool.rec (motive := fun _ => Nat) (iw l n es) (Nat.lor (iw l n es) (Nat.lor (Nat.pow 2 e.on) (vu 0 l (Nat.sub (Nat.sub n 1) e.on)))) (iG e) : Nat) = _
      rw [eF]; rfl
    have ih : bit (iw l n es) a = true → ∃ e' ∈ e :: es, iG e' = true ∧ (a = e'.on ∨ bit (vu 0 l (n - 1 - e'.on)) a = true) := fun h => by
      obtain ⟨e', h1, h2⟩ := wj h
      exact ⟨e', List.mem_cons_of_mem _ h1, h2⟩
    rw [e0] at h
    split at h
    · rename_i hb
      have h' : bit (iw l n es ||| (2 ^ e.on ||| vu 0 l (n - 1 - e.on))) a = true := h
      rw [js, Nat.testBit_or, Nat.testBit_or, Bool.or_eq_true, Bool.or_eq_true] at h'
      rcases h' with h' | h' | h'
      · exact ih (by rw [js]; exact h')
      · rw [Nat.testBit_two_pow] at h'
        exact ⟨e, List.mem_cons_self .., hb, .inl (by simp at h'; exact h'.symm)⟩
      · exact ⟨e, List.mem_cons_self .., hb, .inr (by rw [js]; exact h')⟩
    · exact ih h
theorem uo : ∀ (ops : List Oper) (acc : List Nat) (n : Nat), ∃ ms : List Nat, iC ops acc n = ms.reverse ++ acc ∧ ms.length = ops.length ∧ ∀ j o, ops[j]? = some o → ms[j]? = some (iw ((ms.take j).reverse ++ acc) (n + j) o.after.toList)
  | [], acc, n => ⟨[], rfl, rfl, fun j o h => by cases h⟩
  | o :: ops, acc, n => by
    obtain ⟨ms, h1, h2, h3⟩ := uo ops (iw acc n o.after.toList :: acc) (n + 1)
    refine ⟨iw acc n o.after.toList :: ms, ?_, by rw [List.length_cons, List.length_cons, h2], fun j o' hj => ?_⟩
    · show iC ops (iw acc n o.after.toList :: acc) (Nat.succ n) = _
      rw [h1, List.reverse_cons, List.append_assoc]; rfl
    · cases j with
      | zero => cases hj; rfl
      | succ j =>
        have := h3 j o' hj
        rw [List.getElem?_cons_succ, this, List.take_succ_cons, List.reverse_cons, List.append_assoc, show n + 1 + j = n + (j + 1) by omega]
        rfl
theorem qO : ∀ {ops : List Oper} {n : Nat}, oN ops n = true → ∀ j o, ops[j]? = some o → ∀ e ∈ o.after.toList, iG e = true → e.on < n + j
  | [], _, _, _, _, h => by cases h
  | o :: ops, n, h, j, o', hj => by
    have h' : eP (uW (fun e => Bool.rec (motive := fun _ => Bool) true (Nat.ble (Nat.succ e.on) n) (iG e)) o.after.toList) (oN ops (Nat.succ n)) = true := h
    rw [gj] at h'
    cases j with
    | zero =>
      cases hj
      intro e he hb
      have := lU h'.1 e he
      simp only [hb] at this
      rw [bA] at this
      omega
    | succ j =>
      intro e he hb
      have := qO h'.2 j o' hj e he hb
      omega
noncomputable def msk (ops : Array Oper) (i : Nat) : Nat := vu 0 (rp (iC ops.toList [] 0) []) i
theorem ae9 {ops : Array Oper} (hb : oN ops.toList 0 = true) {i a : Nat} {o : Oper} (ho : ops[i]? = some o) (h : bit (msk ops i) a = true) : ∃ e ∈ o.after.toList, iG e = true ∧ e.on < i ∧ (a = e.on ∨ bit (msk ops e.on) a = true) := by
  obtain ⟨ms, h1, h2, h3⟩ := uo ops.toList [] 0
  have hm : ∀ j, msk ops j = (ms[j]?).getD 0 := fun j => by
    unfold msk
    rw [a0O, a7Q, h1]; simp
  have ho' : ops.toList[i]? = some o := by rw [Array.getElem?_toList]; exact ho
  have hi := h3 i o ho'
  rw [hm, hi] at h
  obtain ⟨e, e1, e2, e3⟩ := wj h
  have hlt : e.on < i := by have := qO hb i o ho' e e1 e2; omega
  refine ⟨e, e1, e2, hlt, e3.imp id fun h => ?_⟩
  rw [hm]
  have hil : i < ms.length := by rw [h2]; exact (List.getElem?_eq_some_iff.1 ho').1
  rw [a0O, List.append_nil] at h
  have : ((ms.take i).reverse)[0 + i - 1 - e.on]? = ms[e.on]? := by
    have hl : (ms.take i).length = i := by rw [List.length_take]; omega
    rw [List.getElem?_reverse (by omega), hl, List.getElem?_take]
    rw [if_pos (by omega)]
    congr 1; omega
  rw [this] at h; exact h
theorem a0T {P : Program} {ops : Array Oper} {ms : List Nat} : ∀ {l : List Oper} {i0 : Nat} {x : Dr}, x ∈ drs P ops l ms i0 → ∃ j o, l[j]? = some o ∧ x = ⟨i0 + j, o, cls P o.op, vu 0 ms (i0 + j), jY ops o⟩
  | [], _, _, h => by cases h
  | o :: l, i0, x, h => by
    have h' : x ∈ (⟨i0, o, cls P o.op, vu 0 ms i0, jY ops o⟩ : Dr) :: drs P ops l ms (Nat.succ i0) := h
    rcases List.mem_cons.1 h' with rfl | h'
    · exact ⟨0, o, rfl, rfl⟩
    · obtain ⟨j, o', h1, h2⟩ := a0T h'
      exact ⟨j + 1, o', h1, by rw [h2, show Nat.succ i0 + j = i0 + (j + 1) by omega]⟩
theorem adp {P : Program} {ops : Array Oper} {ms : List Nat} (o : Oper) (l : List Oper) (i0 : Nat) : drs P ops (o :: l) ms i0 = (⟨i0, o, cls P o.op, vu 0 ms i0, jY ops o⟩ : Dr) :: drs P ops l ms (i0 + 1) := rfl
theorem s9 {P : Program} {ops : Array Oper} {ms : List Nat} : ∀ (l : List Oper) (i0 : Nat), (drs P ops l ms i0).map (·.i) = List.range' i0 l.length
  | [], _ => rfl
  | o :: l, i0 => by rw [adp, List.map_cons, s9 l (i0 + 1), List.length_cons, List.range'_succ]
theorem kf (i : Nat) (x : Dr) (l : List Dr) : dH i (x :: l) = if x.i = i then l else x :: dH i l := by
  show (Bool.rec (motive := fun _ => List Dr) (x :: dH i l) l (Nat.beq x.i i) : List Dr) = _
  rw [eF]; simp only [aF]
theorem lk {i : Nat} : ∀ (l : List Dr), (dH i l).Sublist l
  | [] => List.Sublist.slnil
  | x :: l => by
    rw [kf]
    split
    · exact (List.Sublist.refl l).cons _
    · exact (lk l).cons_cons _
theorem ub {i : Nat} {y : Dr} (hi : y.i ≠ i) : ∀ {l : List Dr}, y ∈ l → y ∈ dH i l
  | x :: l, h => by
    rw [kf]
    by_cases e : x.i = i
    · rw [if_pos e]; exact (List.mem_cons.1 h).resolve_left fun q => hi (q ▸ e)
    · rw [if_neg e, List.mem_cons]; exact (List.mem_cons.1 h).imp id (ub hi)
theorem ou {i : Nat} {y : Dr} : ∀ {l : List Dr}, (l.map (·.i)).Nodup → y ∈ dH i l → y.i ≠ i
  | [], _, h => by cases h
  | x :: l, hn, h => by
    rw [List.map_cons, List.nodup_cons] at hn
    rw [kf] at h
    by_cases e : x.i = i
    · rw [if_pos e] at h
      intro q
      exact hn.1 (by rw [e, ← q]; exact List.mem_map.2 ⟨y, h, rfl⟩)
    · rw [if_neg e] at h
      rcases List.mem_cons.1 h with rfl | h
      · exact e
      · exact ou hn.2 h
theorem uc {i : Nat} : ∀ (l : List Dr), (∃ x ∈ l, x.i = i) → (dH i l).length + 1 = l.length
  | [], ⟨x, h, _⟩ => by cases h
  | x :: l, ⟨y, hy, hyi⟩ => by
    rw [kf]
    by_cases e : x.i = i
    · rw [if_pos e, List.length_cons]
    · rw [if_neg e, List.length_cons, List.length_cons, uc l ⟨y, (List.mem_cons.1 hy).resolve_left fun q => e (q ▸ hyi), hyi⟩]
theorem tE {D : Nat} {x : Dr} : ∀ {l : List Dr}, rQ D l = some x → x ∈ l ∧ ready D x = true
  | [], h => by cases h
  | y :: l, h => by
    have h' : (Bool.rec (motive := fun _ => Option Dr) (rQ D l) (some y) (ready D y) : Option Dr) = some x := h
    rw [eF] at h'
    split at h'
    · cases h'; exact ⟨List.mem_cons_self .., by assumption⟩
    · obtain ⟨h1, h2⟩ := tE h'; exact ⟨List.mem_cons_of_mem _ h1, h2⟩
theorem sR {D : Nat} {x : Dr} {no : Option Dr} : ∀ {l : List Dr}, sH D l no = some x → (x ∈ l ∧ ready D x = true) ∨ no = some x
  | [], h => .inr h
  | y :: l, h => by
    have h' : (Bool.rec (motive := fun _ => Option Dr) (sH D l no) (some y) (eP (ready D y) (Nat.ble y.c 2)) : Option Dr) = some x := h
    rw [eF] at h'
    split at h'
    · rename_i hb
      rw [gj] at hb
      cases h'; exact .inl ⟨List.mem_cons_self .., hb.1⟩
    · rcases sR h' with ⟨h1, h2⟩ | h
      · exact .inl ⟨List.mem_cons_of_mem _ h1, h2⟩
      · exact .inr h
theorem a9A {D : Nat} {x : Dr} (h : ready D x = true) {a : Nat} (ha : bit x.m a = true) : bit D a = true := by
  have h' : Nat.beq (x.m &&& D) x.m = true := h
  rw [aF] at h'
  rw [js] at ha ⊢
  have : (x.m &&& D).testBit a = true := by rw [h']; exact ha
  rw [Nat.testBit_and, Bool.and_eq_true] at this
  exact this.2
theorem nH : ∀ (n D : Nat) (l : List Dr), (l.map (·.i)).Nodup → ∀ (k : Nat) (x : Dr), (order n D l)[k]? = some x → x ∈ l ∧ (∀ a, bit x.m a = true → bit D a = true ∨ ∃ (q : Nat) (y : Dr), q < k ∧ (order n D l)[q]? = some y ∧ y.i = a) ∧ ∀ (q : Nat) (y : Dr), (order n D l)[q]? = some y → y.i = x.i → q = k
  | 0, D, l, _, k, x, h => by cases h
  | n + 1, D, l, hnd, k, x, h => by
    have e0 : order (n + 1) D l = Option.rec (motive := fun _ => List Dr) [] (fun x => x :: order n (Nat.lor D (Nat.pow 2 x.i)) (dH x.i l)) (sH D l (rQ D l)) := rfl
    cases hp : sH D l (rQ D l) with
    | none => rw [e0, hp] at h; cases h
    | some z =>
      have e1 : order (n + 1) D l = z :: order n (D ||| 2 ^ z.i) (dH z.i l) := by rw [e0, hp]; rfl
      have hz : z ∈ l ∧ ready D z = true := (sR hp).elim id tE
      have ih := nH n (D ||| 2 ^ z.i) (dH z.i l) (hnd.sublist ((lk l).map _))
      rw [e1] at h ⊢
      have far : ∀ (q : Nat) (y : Dr), (order n (D ||| 2 ^ z.i) (dH z.i l))[q]? = some y → y.i ≠ z.i := fun q y hy => ou hnd (ih q y hy).1
      cases k with
      | zero =>
        cases h
        refine ⟨hz.1, fun a ha => .inl (a9A hz.2 ha), fun q y hy he => ?_⟩
        cases q with
        | zero => rfl
        | succ q => exact absurd he (far q y hy)
      | succ k =>
        obtain ⟨h1, h2, h3⟩ := ih k x h
        refine ⟨(lk l).subset h1, fun a ha => ?_, fun q y hy he => ?_⟩
        · rcases h2 a ha with h4 | ⟨q, y, h4, h5, h6⟩
          · rw [js, Nat.testBit_or, Bool.or_eq_true, Nat.testBit_two_pow] at h4
            rcases h4 with h4 | h4
            · exact .inl (by rw [js]; exact h4)
            · exact .inr ⟨0, z, Nat.succ_pos _, rfl, by simp at h4; exact h4⟩
          · exact .inr ⟨q + 1, y, Nat.succ_lt_succ h4, h5, h6⟩
        · cases q with
          | zero => cases hy; exact absurd he.symm (far k x h)
          | succ q => exact congrArg (· + 1) (h3 q y hy he)
theorem a0h : ∀ (n D : Nat) (l : List Dr), l.length ≤ n → (order n D l).length = n → ∀ y ∈ l, ∃ x ∈ order n D l, x.i = y.i
  | 0, D, l, hl, _, y, hy => by
    have : l = [] := List.length_eq_zero_iff.1 (Nat.le_zero.1 hl)
    subst this; cases hy
  | n + 1, D, l, hl, hn, y, hy => by
    have e0 : order (n + 1) D l = Option.rec (motive := fun _ => List Dr) [] (fun x => x :: order n (Nat.lor D (Nat.pow 2 x.i)) (dH x.i l)) (sH D l (rQ D l)) := rfl
    cases hp : sH D l (rQ D l) with
    | none => rw [e0, hp] at hn; cases hn
    | some z =>
      have e1 : order (n + 1) D l = z :: order n (D ||| 2 ^ z.i) (dH z.i l) := by rw [e0, hp]; rfl
      have hz : z ∈ l := ((sR hp).elim id tE).1
      rw [e1] at hn ⊢
      by_cases e : y.i = z.i
      · exact ⟨z, List.mem_cons_self .., e.symm⟩
      · have hw := uc (i := z.i) l ⟨z, hz, rfl⟩
        obtain ⟨x, h1, h2⟩ := a0h n (D ||| 2 ^ z.i) (dH z.i l) (by omega) (by rw [List.length_cons] at hn; omega) y (ub e hy)
        exact ⟨x, List.mem_cons_of_mem _ h1, h2⟩
theorem zC {f : Dr → Dr → Bool} : ∀ {l : List Dr}, aaS f l = true → ∀ (k j : Nat) (x y : Dr), k < j → l[k]? = some x → l[j]? = some y → f x y = true
  | [], _, _, _, _, _, _, h, _ => by cases h
  | z :: l, h, k, j, x, y, hkj, hx, hy => by
    have h' : eP (uW (fun y => f z y) l) (aaS f l) = true := h
    rw [gj] at h'
    cases j with
    | zero => omega
    | succ j =>
      cases k with
      | zero => cases hx; exact lU h'.1 y (List.mem_of_getElem? hy)
      | succ k => exact zC h'.2 k j x y (by omega) hx hy
theorem mN {x y : Dr} {d : Nat} (h : tT x y = true) (hd : x.o.dst = some d) : y.o.dst ≠ some d ∧ (d ∈ y.r → bit y.m x.i = true ∨ bit x.m y.i = true) := by
  unfold tT at h
  rw [hd] at h
  have h' : eP (Option.rec (motive := fun _ => Bool) true (fun e => dv (Nat.beq d e)) y.o.dst) (uW (fun t => Bool.rec (motive := fun _ => Bool) true (Bool.rec (motive := fun _ => Bool) (bit x.m y.i) true (bit y.m x.i)) (Nat.beq t d)) y.r) = true := h
  rw [gj] at h'
  refine ⟨fun e => ?_, fun hm => ?_⟩
  · rw [e] at h'
    have := h'.1
    have e2 : dv (Nat.beq d d) = true := this
    rw [fA, Nat.beq_refl] at e2; cases e2
  · have := lU h'.2 d hm
    simp only [Nat.beq_refl] at this
    cases hb : bit y.m x.i with
    | true => exact .inl rfl
    | false => rw [hb] at this; exact .inr this
theorem kV {x y : Dr} (h : a0F x y = true) : bit y.m x.i = true ∨ y.c = 0 ∨ x.c ≤ 2 := by
  unfold a0F at h
  cases hb : bit y.m x.i with
  | true => exact .inl rfl
  | false =>
    rw [hb] at h
    have h' : eP (dv (Nat.beq x.c 6)) (eP (dv (Nat.beq y.c 6)) (Bool.rec (motive := fun _ => Bool) (Nat.beq y.c 0) true (Nat.ble x.c 2))) = true := h
    rw [gj, gj] at h'
    have h2 := h'.2.2
    cases hc : Nat.ble x.c 2 with
    | true => rw [bA] at hc; exact .inr (.inr hc)
    | false => rw [hc] at h2; exact .inr (.inl (by rw [← aF]; exact h2))
section
variable {M : Mem} (ok : cW M) {R : aa} (hR : R ≠ .fail)
include hR in
theorem sY {C : Cx} {g : G} {sk : Row} {fr : Fr} {k : List Nat → aa} : ∀ {l : List Dr} {acc : List Nat}, lp sk fr (l.map (fc C g)) acc k = R →
    ∃ pl, k pl = R ∧ (∀ b ∈ acc, b ∈ pl) ∧ ∀ y ∈ l, ∃ p, spot y.o.op = some p ∧ (∀ t a b c, ov C g sk fr p ≠ .x 0 t a b c) ∧ ∀ b, jo (ov C g sk fr p) = some b → b ∈ pl
  | [], acc, h => ⟨acc, h, fun _ h => h, fun _ h => (by cases h)⟩
  | y :: l, acc, h => by
    cases hsp : spot y.o.op with
    | none =>
      have h' : (fc C g y).get sk fr _ = R := h
      unfold fc at h'
      rw [hsp] at h'; exact an hR h'
    | some p =>
      have h1 : (jI C g p).get sk fr (fun v => v.on (fun _ _ => .fail) (fun _ => .fail) (fun _ _ => lp sk fr (l.map (fc C g)) acc k) (fun b _ => lp sk fr (l.map (fc C g)) (b :: acc) k) (fun b _ _ _ => lp sk fr (l.map (fc C g)) (b :: acc) k) (fun _ _ _ _ => lp sk fr (l.map (fc C g)) acc k) (fun _ _ => .fail) (fun _ _ => .fail)
        (fun g' _ b _ _ => when (Nat.beq g' 4) (lp sk fr (l.map (fc C g)) (b :: acc) k) (ar (Nat.beq g' 1 || Nat.ble 6 g') (lp sk fr (l.map (fc C g)) acc k)))) = R := by
        have h' : (fc C g y).get sk fr _ = R := h
        unfold fc at h'
        rw [hsp] at h'; exact h'
      have h2 := bP hR h1
      have plain : ∀ {q : AV}, ov C g sk fr p = q → jo q = none → (∀ t a b c, q ≠ .x 0 t a b c) → lp sk fr (l.map (fc C g)) acc k = R → ∃ pl, k pl = R ∧ (∀ b ∈ acc, b ∈ pl) ∧ ∀ y' ∈ y :: l, ∃ p, spot y'.o.op = some p ∧ (∀ t a b c, ov C g sk fr p ≠ .x 0 t a b c) ∧ ∀ b, jo (ov C g sk fr p) = some b → b ∈ pl := fun {q} hq hs hn h => by
        obtain ⟨pl, q1, q2, q3⟩ := sY h
        refine ⟨pl, q1, q2, fun y' hy => ?_⟩
        rcases List.mem_cons.1 hy with rfl | hy
        · exact ⟨p, hsp, by rw [hq]; exact hn, fun b hb => by rw [hq, hs] at hb; cases hb⟩
        · exact q3 y' hy
      have block : ∀ {q : AV} {b0 : Nat}, ov C g sk fr p = q → (∀ b, jo q = some b → b = b0) → (∀ t a b c, q ≠ .x 0 t a b c) → lp sk fr (l.map (fc C g)) (b0 :: acc) k = R → ∃ pl, k pl = R ∧ (∀ b ∈ acc, b ∈ pl) ∧ ∀ y' ∈ y :: l, ∃ p, spot y'.o.op = some p ∧ (∀ t a b c, ov C g sk fr p ≠ .x 0 t a b c) ∧ ∀ b, jo (ov C g sk fr p) = some b → b ∈ pl := fun {q b0} hq hs hn h => by
        obtain ⟨pl, q1, q2, q3⟩ := sY h
        refine ⟨pl, q1, fun b hb => q2 b (List.mem_cons_of_mem _ hb), fun y' hy => ?_⟩
        rcases List.mem_cons.1 hy with rfl | hy
        · exact ⟨p, hsp, by rw [hq]; exact hn, fun b hb => by rw [hq] at hb; rw [hs b hb]; exact q2 _ (List.mem_cons_self ..)⟩
        · exact q3 y' hy
      cases hv : ov C g sk fr p with
      | int => rw [hv] at h2; exact an hR h2
      | bool => rw [hv] at h2; exact an hR h2
      | str s n => rw [hv] at h2; exact plain hv rfl (fun _ _ _ _ => by simp) h2
      | ptr b o => rw [hv] at h2; exact block hv (fun c hc => by cases hc; rfl) (fun _ _ _ _ => by simp) h2
      | ms b o n z => rw [hv] at h2; exact block hv (fun c hc => by cases n with | zero => cases hc | succ n => cases hc; rfl) (fun _ _ _ _ => by simp) h2
      | vs t o n z => rw [hv] at h2; exact plain hv rfl (fun _ _ _ _ => by simp) h2
      | agg => rw [hv] at h2; exact an hR h2
      | bB => rw [hv] at h2; exact an hR h2
      | x g' t b c d =>
        rw [hv] at h2
        rcases aM hR (show when (Nat.beq g' 4) (lp sk fr (l.map (fc C g)) (b :: acc) k) (ar (Nat.beq g' 1 || Nat.ble 6 g') (lp sk fr (l.map (fc C g)) acc k)) = R from h2) with ⟨e, h3⟩ | ⟨e, h3⟩
        · rw [aF] at e; subst e
          exact block hv (fun c hc => by cases hc; rfl) (fun _ _ _ _ => by simp) h3
        · obtain ⟨e2, h4⟩ := ax hR h3
          have hne : g' ≠ 4 := fun q => by rw [q] at e; cases e
          have hn0 : g' ≠ 0 := fun q => by rw [q] at e2; cases e2
          refine plain hv ?_ (fun _ _ _ _ q => by cases q; exact hn0 rfl) h4
          unfold jo
          split <;> first | rfl | (rename_i q; cases q; first | done | exact absurd rfl hne)
include ok hR
theorem zj {k : List (Nat × bX) → Hp → aa} : ∀ {l : List Nat} {hp : Hp} {acc : List (Nat × bX)}, l.Nodup → a3n M l hp acc k = R →
    ∃ h1, k ((l.map fun i => (hp.rb + i, hp.at (hp.rb + i))).reverse ++ acc) h1 = R ∧ h1.nx = hp.nx ∧ h1.pr = hp.pr ∧ h1.rb = hp.rb ∧ (∀ b, (∃ i ∈ l, b = hp.rb + i) → h1.at b = .dead) ∧ ∀ b, (¬ ∃ i ∈ l, b = hp.rb + i) → h1.at b = hp.at b
  | [], hp, acc, _, h => ⟨hp, h, rfl, rfl, rfl, fun b hb => (by obtain ⟨i, hi, _⟩ := hb; cases hi), fun _ _ => rfl⟩
  | i :: l, hp, acc, hn, h => by
    rw [List.nodup_cons] at hn
    have h1 : aG (Nat.add hp.rb i) (fun b => hp.get M b fun B => hp.put M b .dead fun hp => a3n M l hp ((b, B) :: acc) k) = R := h
    rw [az] at h1
    have h2 := iu ok hR h1
    obtain ⟨hq, hs, hnx, h3⟩ := kJ ok hR h2
    obtain ⟨h4, q1, q2, q3, q4, q5, q6⟩ := zj hn.2 h3
    have yB : hq.rb = hp.rb := hs.rb
    have hother : ∀ j ∈ l, hq.at (hp.rb + j) = hp.at (hp.rb + j) := fun j hj => hs.ne fun e => hn.1 (by
      have : j = i := by have : hp.rb + j = hp.rb + i := e; omega
      rw [← this]; exact hj)
    refine ⟨h4, ?_, q2.trans hnx, q3.trans hs.pr, q4.trans yB, fun b hb => ?_, fun b hb => ?_⟩
    · rw [← q1]
      congr 1
      rw [List.map_cons, List.reverse_cons, List.append_assoc, yB]
      congr 2
      exact List.map_congr_left fun j hj => by rw [hother j hj]
    · obtain ⟨j, hj, rfl⟩ := hb
      rcases List.mem_cons.1 hj with rfl | hj
      · by_cases e : ∃ j' ∈ l, hp.rb + j = hq.rb + j'
        · exact q5 _ e
        · rw [q6 _ e]; exact hs.same
      · exact q5 _ ⟨j, hj, by rw [yB]⟩
    · have : ¬ ∃ j ∈ l, b = hq.rb + j := fun ⟨j, hj, e⟩ => hb ⟨j, List.mem_cons_of_mem _ hj, by rw [e, yB]⟩
      rw [q6 b this]
      exact hs.ne fun e => hb ⟨i, List.mem_cons_self .., e⟩
theorem zN {k : Hp → aa} : ∀ {l : List (Nat × bX)} {hp : Hp}, (l.map (·.1)).Nodup → xG M l hp k = R → ∃ h', k h' = R ∧ h'.nx = hp.nx ∧ h'.pr = hp.pr ∧ h'.rb = hp.rb ∧ (∀ p ∈ l, h'.at p.1 = p.2) ∧ ∀ b, b ∉ l.map (·.1) → h'.at b = hp.at b
  | [], hp, _, h => ⟨hp, h, rfl, rfl, rfl, fun _ h => (by cases h), fun _ _ => rfl⟩
  | p :: l, hp, hn, h => by
    rw [List.map_cons, List.nodup_cons] at hn
    obtain ⟨hq, hs, hnx, h1⟩ := kJ ok hR (show hp.put M p.1 p.2 (fun hp => xG M l hp k) = R from h)
    obtain ⟨h', q1, q2, q3, q4, q5, q6⟩ := zN hn.2 h1
    refine ⟨h', q1, q2.trans hnx, q3.trans hs.pr, q4.trans hs.rb, fun x hx => ?_, fun b hb => ?_⟩
    · rcases List.mem_cons.1 hx with rfl | hx
      · rw [q6 _ hn.1]; exact hs.same
      · exact q5 x hx
    · rw [List.map_cons, List.mem_cons, not_or] at hb
      rw [q6 b hb.2]; exact hs.ne hb.1
theorem zm {h : Hp} {k : Hp → aa} : ∀ {l : List Nat} {hp : Hp}, gp M h l hp k = R → ∃ h', k h' = R ∧ h'.nx = hp.nx ∧ h'.pr = hp.pr ∧ h'.rb = hp.rb ∧ (∀ b ∈ l, Kept (h.at b) (hp.at b) (h'.at b)) ∧ ∀ b, b ∉ l → h'.at b = hp.at b
  | [], hp, g => ⟨hp, g, rfl, rfl, rfl, fun _ h => (by cases h), fun _ _ => rfl⟩
  | b :: l, hp, g => by
    have g1 := iu ok hR (show h.get M b (fun B => hp.get M b fun B' => bX.rec (motive := fun _ => aa) .fail (fun _ fl z s t => B'.lO fun rw _ _ _ _ => hp.put M b (.row rw fl z s t) fun hp => gp M h l hp k) (fun n t => B'.q8 fun _ _ => hp.put M b (.map n t) fun hp => gp M h l hp k) (fun _ _ _ _ => .fail) (fun _ => .fail) B) = R from g)
    have g2 := iu ok hR g1
    have rest : ∀ {X : bX}, Kept (h.at b) (hp.at b) X → hp.put M b X (fun hp => gp M h l hp k) = R → ∃ h', k h' = R ∧ h'.nx = hp.nx ∧ h'.pr = hp.pr ∧ h'.rb = hp.rb ∧ (∀ c ∈ b :: l, Kept (h.at c) (hp.at c) (h'.at c)) ∧ ∀ c, c ∉ b :: l → h'.at c = hp.at c := by
      intro X hX g
      obtain ⟨hq, hs, hnx, g'⟩ := kJ ok hR g
      obtain ⟨h', q1, q2, q3, q4, q5, q6⟩ := zm g'
      refine ⟨h', q1, q2.trans hnx, q3.trans hs.pr, q4.trans hs.rb, fun c hc => ?_, fun c hc => ?_⟩
      · by_cases hcl : c ∈ l
        · have hk := q5 c hcl
          by_cases e : c = b
          · subst e
            rw [hs.same] at hk
            rcases hX with ⟨rw, rw', fl, fl', z, z', s, s', t, t', e1, e2, e3⟩ | ⟨n, n', t, t', e1, e2, e3⟩
            · rcases hk with ⟨rwa, rwa', fla, fla', za, za', sa, sa', ta, ta', o1, o2, o3⟩ | ⟨n, n', t, t', o1, o2, o3⟩
              · rw [e3] at o2; cases o2
                exact .inl ⟨rwa, rw', fla, fl', za, z', sa, s', ta, t', o1, e2, o3⟩
              · rw [e1] at o1; cases o1
            · rcases hk with ⟨rwa, rwa', fla, fla', za, za', sa, sa', ta, ta', o1, o2, o3⟩ | ⟨na, na', ta, ta', o1, o2, o3⟩
              · rw [e1] at o1; cases o1
              · exact .inr ⟨na, n', ta, t', o1, e2, o3⟩
          · rw [hs.ne e] at hk; exact hk
        · have e : c = b := (List.mem_cons.1 hc).resolve_right hcl
          subst e
          rw [q6 c hcl, hs.same]; exact hX
      · rw [List.mem_cons, not_or] at hc
        rw [q6 c hc.2]; exact hs.ne hc.1
    cases hB : h.at b with
    | dead => rw [hB] at g2; exact an hR g2
    | fwd i => rw [hB] at g2; exact an hR g2
    | loop => rw [hB] at g2; exact an hR g2
    | row rw fl z s t =>
      rw [hB] at g2
      obtain ⟨rw', fl', z', s', t', e, g3⟩ := sX hR g2
      exact rest (by rw [hB]; exact .inl ⟨_, _, _, _, _, _, _, _, _, _, rfl, e, rfl⟩) g3
    | map n t =>
      rw [hB] at g2
      obtain ⟨n', t', e, g3⟩ := tY hR g2
      exact rest (by rw [hB]; exact .inr ⟨_, _, _, _, rfl, e, rfl⟩) g3
omit ok hR in
theorem aeX (a b : List Nat) : pQ a b = a ++ b := by
  induction a with
  | nil => rfl
  | cons x a ih => exact congrArg (x :: ·) ih
structure a1D (A pl : List Nat) (hp hA h2 h4 : Hp) : Prop where
  anx : hA.nx = hp.nx
  arb : hA.rb = hp.rb
  apr : hA.pr = pl ++ hp.pr
  ain : ∀ b, (∃ i ∈ A, b = hp.rb + i) → hA.at b = .dead
  aout : ∀ b, (¬ ∃ i ∈ A, b = hp.rb + i) → hA.at b = hp.at b
  nx : h4.nx = h2.nx
  nxle : hp.nx ≤ h4.nx
  pr : h4.pr = hp.pr
  rb : h4.rb = hp.rb
  kin : ∀ b, (∃ i ∈ A, b = hp.rb + i) → b ∉ pl → h4.at b = hp.at b
  kout : ∀ b, (¬ ∃ i ∈ A, b = hp.rb + i) → b ∉ pl → h4.at b = h2.at b
  pin : ∀ b, (∃ i ∈ A, b = hp.rb + i) → b ∈ pl → Kept (hp.at b) (hp.at b) (h4.at b)
  pout : ∀ b, (¬ ∃ i ∈ A, b = hp.rb + i) → b ∈ pl → Kept (hp.at b) (h2.at b) (h4.at b)
theorem a9C {C : Cx} {g : G} {A : List Nat} (hA : A.Nodup) {l : List Dr} {s : Sm} {P : Pt} {k : Sm} {sk : Row} {fr : Fr} {hp : Hp} (h : (a6G M A (l.map (fc C g)) s P k).run sk fr hp = R) :
    ∃ pl hA v h2 h4, s.run sk fr hA = .val v h2 ∧ P.f k sk fr h4 v = R ∧ a1D A pl hp hA h2 h4 ∧ ∀ y ∈ l, ∃ p, spot y.o.op = some p ∧ (∀ t a b c, ov C g sk fr p ≠ .x 0 t a b c) ∧ ∀ b, jo (ov C g sk fr p) = some b → b ∈ pl := by
  obtain ⟨pl, h1, _, hpl⟩ := sY hR (show lp sk fr (l.map (fc C g)) [] (fun pl => a3n M A hp [] fun sv h1 =>
    aa.rec (motive := fun _ => aa) (fun _ _ => .fail) (fun _ _ _ => .fail) (fun _ _ => .fail) (fun v h2 => xG M sv h2 fun h3 => gp M hp pl h3 fun h4 => Hp.rec (motive := fun _ => aa) (fun t nx _ _ => Hp.rec (motive := fun _ => aa) (fun _ nx0 pr rb => ar (Nat.ble nx0 nx) (P.f k sk fr ⟨t, nx, pr, rb⟩ v)) hp) h4) .fail (s.run sk fr (h1.a3L (pQ pl hp.pr)))) = R from h)
  obtain ⟨hH, h2, a1, a2, a3, a4, a5⟩ := zj ok hR hA h1
  rw [List.append_nil] at h2
  cases hres : s.run sk fr (hH.a3L (pQ pl hp.pr)) with
  | val v hq =>
    rw [hres] at h2
    have hnd : (((A.map fun i => (hp.rb + i, hp.at (hp.rb + i))).reverse).map (·.1)).Nodup := by
      rw [List.map_reverse, List.map_map]
      show (List.reverse (A.map fun i => hp.rb + i)).Nodup
      exact List.pairwise_reverse.2 (List.Pairwise.map (fun i => hp.rb + i) (fun a b hne e => hne (by omega)) hA)
    obtain ⟨h3, g1, b1, b2, b3, b4, b5⟩ := zN ok hR hnd (show xG M ((A.map fun i => (hp.rb + i, hp.at (hp.rb + i))).reverse) hq (fun h3 => gp M hp pl h3 fun h4 => Hp.rec (motive := fun _ => aa) (fun t nx _ _ => Hp.rec (motive := fun _ => aa) (fun _ nx0 pr rb => ar (Nat.ble nx0 nx) (P.f k sk fr ⟨t, nx, pr, rb⟩ v)) hp) h4) = R from h2)
    obtain ⟨h4, g2, c1, c2, c3, c4, c5⟩ := zm ok hR g1
    obtain ⟨hle, g3⟩ := ax hR (show ar (Nat.ble hp.nx h4.nx) (P.f k sk fr ⟨h4.t, h4.nx, hp.pr, hp.rb⟩ v) = R from g2)
    rw [bA] at hle
    have hback : ∀ b, (∃ i ∈ A, b = hp.rb + i) → h3.at b = hp.at b := fun b ⟨i, hi, e⟩ => by
      subst e
      exact b4 (hp.rb + i, hp.at (hp.rb + i)) (List.mem_reverse.2 (List.mem_map.2 ⟨i, hi, rfl⟩))
    have hstay : ∀ b, (¬ ∃ i ∈ A, b = hp.rb + i) → h3.at b = hq.at b := fun b hb => b5 b fun hm => hb (by
      obtain ⟨p, hp', rfl⟩ := List.mem_map.1 hm
      obtain ⟨i, hi, rfl⟩ := List.mem_map.1 (List.mem_reverse.1 hp')
      exact ⟨i, hi, rfl⟩)
    refine ⟨pl, hH.a3L (pQ pl hp.pr), v, hq, ⟨h4.t, h4.nx, hp.pr, hp.rb⟩, hres, g3, ⟨a1, a3, aeX _ _, a4, a5, c1.trans b1, hle, rfl, rfl, fun b hb hn => ?_, fun b hb hn => ?_, fun b hb hi => ?_, fun b hb hi => ?_⟩, hpl⟩
    · exact (c5 b hn).trans (hback b hb)
    · exact (c5 b hn).trans (hstay b hb)
    · have := c4 b hi
      rw [hback b hb] at this; exact this
    · have := c4 b hi
      rw [hstay b hb] at this; exact this
  | _ => rw [hres] at h2; exact an hR h2
end
end Go.Proofs.YtbamejikafhenaaDoor.Ev
