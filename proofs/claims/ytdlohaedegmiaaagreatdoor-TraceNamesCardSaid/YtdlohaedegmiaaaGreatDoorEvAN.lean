import Derived.Test.YtdlohaedegmiaaaGreatDoorEvAM
import Derived.RangeFuncIn
namespace Go.Proofs.YtdlohaedegmiaaaGreatDoor.Ev
theorem ae.a0M {w : World} {F : Nat → Prop} {μ : Mu} {a : AV} {v : Value} (h : ae w F μ a v) (hf : a.aS = true) (w' : World) (F' : Nat → Prop) (μ' : Mu) : ae w' F' μ' a v := by
  cases h with
  | int h => exact .int h
  | bool b => exact .bool b
  | str => exact .str
  | uu v => exact .uu v
  | mz => exact .mz
  | ju => exact .ju
  | mw => exact .mw
  | my => exact .my
  | la => exact .la
  | emp => exact .emp
  | _ => exact Bool.noConfusion hf
structure iB where
  w : World
  μc : Mu
  Fc : Nat → Prop
  Ft : Nat → Prop
  hc : Hp
  hp : Hp
  μ : Mu
  s : Nat
  full : Prop
structure eP (V : Env) (E : iB) : Prop where
  hc : au V E.μc E.Fc E.hc E.w
  new : ∀ c m, E.μc c = some m → E.s ≤ m.aF
  hp : au V E.μ E.Ft E.hp E.w
  old : ∀ b m, E.μ b = some m → m.aF < E.s
  ft : ∀ c m, E.μc c = some m → ¬ E.Fc m.aF → ¬ E.Ft m.aF
  full : E.full → ∀ B, E.Fc B → E.Ft B
structure fY (V : Env) (E : iB) (hc hp : Hp) (μ : Mu) : Prop where
  a : au V μ E.Ft hp E.w
  b : ∀ b, b < E.hp.nx → hp.at b = E.hp.at b ∧ μ b = E.μ b
  c : ∀ b, E.hp.nx ≤ b → μ b = none ∨ ∃ c, hc.at c = .fwd b ∧ μ b = E.μc c ∧ ((hp.at b).wr → (E.hc.at c).wr)
  d : ∀ c, hc.at c = E.hc.at c ∨ ∃ id m, hc.at c = .fwd id ∧ E.μc c = some m ∧ μ id = some m ∧ E.hp.nx ≤ id
  nx : E.hp.nx ≤ hp.nx
  pr : hp.pr = E.hp.pr
  rb : hp.rb = E.hp.rb
def Le (μ μ' : Mu) : Prop := ∀ b m, μ b = some m → μ' b = some m
theorem au.adopt {V : Env} {μ : Mu} {F : Nat → Prop} {h h' : Hp} {w : World} (H : au V μ F h w) {id : Nat} {B : aX} {m : Mp} (hid : μ id = none) (s : br h id B h') (hn : id < h'.nx) (hm : m.aF < w.heap.size) (hB : dN V w F (jK μ id m) id B) (hx : B.wr → ∀ b m', (h.at b).wr → μ b = some m' → m'.aF ≠ m.aF) : au V (jK μ id m) F h' w := by
  have le := ck m hid
  refine ⟨fun b => ?_, fun b b' x x' h1 h2 hne hx1 hx2 => ?_, fun b x hx => ?_, H.fN, H.jk⟩
  · by_cases e : b = id
    · subst e; rw [s.same]; exact hB
    · rw [s.ne e]
      have hb := H.aF b
      refine hb.keep (fun _ _ => rfl) (fun _ h => h) le (fun _ _ => rfl) (fun _ _ _ h => h)
  · by_cases e : b = id
    · subst e
      rw [s.same] at h1
      rw [aD] at hx1; cases hx1
      have e2 : b' ≠ b := Ne.symm hne
      rw [s.ne e2] at h2
      rw [bc μ m e2] at hx2
      exact (hx h1 b' x' h2 hx2).symm
    · rw [s.ne e] at h1
      rw [bc μ m e] at hx1
      by_cases e2 : b' = id
      · subst e2
        rw [s.same] at h2
        rw [aD] at hx2; cases hx2
        exact hx h2 b x h1 hx1
      · rw [s.ne e2] at h2
        rw [bc μ m e2] at hx2
        exact H.dw b b' x x' h1 h2 hne hx1 hx2
  · by_cases e : b = id
    · subst e; rw [aD] at hx; cases hx; exact ⟨hn, hm⟩
    · rw [bc μ m e] at hx
      obtain ⟨q1, q2⟩ := H.et b x hx
      exact ⟨Nat.lt_of_lt_of_le q1 s.nx, q2⟩
def IOk (V : Env) (z : IK) : Prop := ∀ (v : AV) (hc hp : Hp) (b : Bool) (k : AV → Hp → Hp → Bool → ab) (R : ab), R ≠ .fail → z.f v hc hp b k = R → ∃ v' hc' hp' b', k v' hc' hp' b' = R ∧ (b = true → b' = true) ∧
  ∀ (E : iB), eP V E → (b' = false ∨ E.full) → ∀ μ, fY V E hc hp μ → ∃ μ', fY V E hc' hp' μ' ∧ Le μ μ' ∧ bg E.w E.Fc E.μc E.w E.Ft μ' v v'
section
variable {V : Env} {M : Mem} (ok : aT M)
theorem a1Z {b b' : Bool} {p : Prop} (h : b = true → b' = true) (h' : b' = false ∨ p) : b = false ∨ p := h'.elim (fun e => .inl (by cases b with | false => rfl | true => rw [h rfl] at e; cases e)) .inr
theorem a0S {z : IK} (hz : IOk V z) {R : ab} (hR : R ≠ .fail) : ∀ {l : Row} {hc hp : Hp} {b : Bool} {k : Row → Hp → Hp → Bool → ab}, il z l hc hp b k = R → ∃ r hc' hp' b', k r hc' hp' b' = R ∧ (b = true → b' = true) ∧ len r = len l ∧
    ∀ (E : iB), eP V E → (b' = false ∨ E.full) → ∀ μ, fY V E hc hp μ → ∃ μ', fY V E hc' hp' μ' ∧ Le μ μ' ∧ ∀ i u, ae E.w E.Fc E.μc (nth l i) u → ae E.w E.Ft μ' (nth r i) u
  | .lf, hc, hp, b, k, h => ⟨.lf, hc, hp, b, h, id, rfl, fun E _ _ μ J => ⟨μ, J, fun _ _ h => h, fun i u _ => by cases i <;> exact .uu u⟩⟩
  | .nd v a l, hc, hp, b, k, h => by
    obtain ⟨v', hc1, hp1, b1, g1, hb1, H1⟩ := hz v hc hp b (fun v hc hp b => il z l hc hp b fun r hc hp b => k (.nd v .lf r) hc hp b) R hR h
    obtain ⟨r, hc2, hp2, b2, g2, hb2, hl, H2⟩ := a0S hz hR g1
    refine ⟨_, hc2, hp2, b2, g2, fun e => hb2 (hb1 e), congrArg (· + 1) hl, fun E ho hor μ J => ?_⟩
    obtain ⟨μ1, J1, l1, s1⟩ := H1 E ho (a1Z hb2 hor) μ J
    obtain ⟨μ2, J2, l2, s2⟩ := H2 E ho hor μ1 J1
    refine ⟨μ2, J2, fun x m hx => l2 x m (l1 x m hx), fun i u hu => ?_⟩
    cases i with
    | zero => exact (s1.val u hu).mono (fun _ _ => rfl) (fun _ h => h) l2
    | succ i => exact s2 i u hu
include ok
theorem a0V {z : IK} (hz : IOk V z) {R : ab} (hR : R ≠ .fail) (n : Nat) : ∀ {t : Row} {o : Nat} {d : Row} {p : Nat} {hc hp : Hp} {b : Bool} {k : Row → Hp → Hp → Bool → ab}, (ir M z n).f t o d p hc hp b k = R → ∃ d' hc' hp' b', k d' hc' hp' b' = R ∧ (b = true → b' = true) ∧ (∀ j, ¬ (p ≤ j ∧ j < p + n) → d'.at j = d.at j) ∧
    ∀ (E : iB), eP V E → (b' = false ∨ E.full) → ∀ μ, fY V E hc hp μ → ∃ μ', fY V E hc' hp' μ' ∧ Le μ μ' ∧ ∀ j, j < n → bg E.w E.Fc E.μc E.w E.Ft μ' (t.at (o + j)) (d'.at (p + j)) := by
  induction n with
  | zero => intro t o d p hc hp b k h; exact ⟨d, hc, hp, b, h, id, fun _ _ => rfl, fun E _ _ μ J => ⟨μ, J, fun _ _ h => h, fun j hj => absurd hj (Nat.not_lt_zero _)⟩⟩
  | succ n ih =>
    intro t o d p hc hp b k h
    have g1 := ok.rg hR (show M.rg.f t o (fun a => z.f a hc hp b fun a hc hp b => M.rs.f d p a fun d => (ir M z n).f t (Nat.succ o) d (Nat.succ p) hc hp b k) = R from h)
    obtain ⟨a', hc1, hp1, b1, g2, hb1, H1⟩ := hz (t.at o) hc hp b (fun a hc hp b => M.rs.f d p a fun d => (ir M z n).f t (Nat.succ o) d (Nat.succ p) hc hp b k) R hR g1
    obtain ⟨d1, hd1, g3⟩ := ok.rs hR g2
    have hd1 : ∀ j, d1.at j = if j = p then a' else d.at j := fun j => hd1 j
    obtain ⟨d', hc2, hp2, b2, g4, hb2, hd, H2⟩ := ih g3
    refine ⟨d', hc2, hp2, b2, g4, fun e => hb2 (hb1 e), fun j hj => ?_, fun E ho hor μ J => ?_⟩
    · rw [hd j (by omega), hd1, if_neg (by omega)]
    · obtain ⟨μ1, J1, l1, s1⟩ := H1 E ho (a1Z hb2 hor) μ J
      obtain ⟨μ2, J2, l2, s2⟩ := H2 E ho hor μ1 J1
      refine ⟨μ2, J2, fun x m hx => l2 x m (l1 x m hx), fun j hj => ?_⟩
      cases j with
      | zero =>
        have e : d'.at (p + 0) = a' := by rw [hd (p + 0) (by omega), hd1, if_pos (Nat.add_zero p)]
        rw [e]
        exact s1.mono (fun _ _ => rfl) (fun _ h => h) l2
      | succ j =>
        have := s2 j (by omega)
        rw [show Nat.succ o + j = o + (j + 1) by omega, show Nat.succ p + j = p + (j + 1) by omega] at this
        exact this
omit ok in
theorem ug {w w' : World} {F F' : Nat → Prop} {μ μ' : Mu} {y n : Nat} {t r : Row} (h : ∀ j, j < n → bg w F μ w' F' μ' (t.at j) (r.at j)) {i : Nat} (hi : i < n * y) {u : Value} (hu : ae w F μ (cellAt y t i) u) : ae w' F' μ' (cellAt y r i) u := by
  have hy : 0 < y := Nat.pos_of_ne_zero fun e => by subst e; omega
  have hlt : i / y < n := (Nat.div_lt_iff_lt_mul hy).2 hi
  have hp3 := h (i / y) hlt
  by_cases e1 : y = 1
  · subst e1
    rw [cellAt, if_pos rfl] at hu ⊢
    rw [Nat.div_one] at hp3
    exact hp3.val u hu
  · rw [cellAt, if_neg e1] at hu ⊢
    exact hp3.elem _ u hu
theorem jQ {R : ab} (hR : R ≠ .fail) {c : Nat} {hc hp : Hp} {X : aX} {k : Nat → Hp → Hp → ab} (h : (hc.put M c (.fwd hp.nx) fun hc => (jr M).f hp X fun id hp => k id hc hp) = R) :
    ∃ hc' hp', k hp.nx hc' hp' = R ∧ br hc c (.fwd hp.nx) hc' ∧ br hp hp.nx X hp' ∧ hp.nx < hp'.nx := by
  obtain ⟨hc', hs, _, g1⟩ := bw ok hR h
  obtain ⟨hp', g2, hs2, hn⟩ := lq ok hR rfl rfl g1
  exact ⟨hc', hp', g2, hs, hs2, hn⟩
omit ok in
theorem jR {c : Nat} {hc hp hc' hp' : Hp} {B X : aX} (hs : br hc c (.fwd hp.nx) hc') (hs2 : br hp hp.nx X hp') (hn : hp.nx < hp'.nx) (hBw : B ≠ .dead ∧ ∀ i, B ≠ .fwd i) (hXw : X.wr → B.wr) {E : iB} (ho : eP V E) {μ : Mu} (J : fY V E hc hp μ) (hcB : hc.at c = B)
    (hBX : ∀ m, E.μc c = some m → E.hc.at c = B → μ hp.nx = none → dN V E.w E.Ft (jK μ hp.nx m) hp.nx X) : ∃ μ', fY V E hc' hp' μ' ∧ Le μ μ' ∧ ∀ m, E.μc c = some m → μ' hp.nx = some m := by
  have hcE : E.hc.at c = B := by
    rcases J.d c with e | ⟨id, m, e, _⟩
    · rw [← e]; exact hcB
    · rw [hcB] at e; exact absurd e (hBw.2 id)
  have hng : ¬ (E.hc.at c).gone := by
    rw [hcE]
    intro hg
    cases B with
    | dead => exact hBw.1 rfl
    | _ => exact hg.elim
  obtain ⟨m, hm⟩ := (ho.hc.aF c).some hng
  have hid : μ hp.nx = none := ic J.a
  refine ⟨jK μ hp.nx m, ⟨J.a.adopt hid hs2 hn (ho.hc.et c m hm).2 (hBX m hm hcE hid) (fun hw b m' hb hm' => ?_), fun b hb => ?_, fun b hb => ?_, fun c' => ?_, Nat.le_trans J.nx hs2.nx, hs2.pr.trans J.pr, hs2.rb.trans J.rb⟩, ck m hid, fun m' hm' => by rw [hm] at hm'; cases hm'; exact aD _ _ _⟩
  · by_cases hlt : b < E.hp.nx
    · rw [(J.b b hlt).2] at hm'
      have h1 := ho.old b m' hm'
      have h2 := ho.new c m hm
      intro e; rw [e] at h1; omega
    · rcases J.c b (by omega) with e | ⟨c', e1, e2, e3⟩
      · rw [e] at hm'; cases hm'
      · have hne : c' ≠ c := fun e => by rw [e, hcB] at e1; exact hBw.2 b e1
        rw [e2] at hm'
        exact ho.hc.dw c' c m' m (e3 hb) (by rw [hcE]; exact hXw hw) hne hm' hm
  · have hne : b ≠ hp.nx := by have := J.nx; omega
    rw [hs2.ne hne, bc μ m hne]
    exact J.b b hb
  · by_cases e : b = hp.nx
    · subst e
      refine .inr ⟨c, hs.same, by rw [aD, hm], fun hw => ?_⟩
      rw [hs2.same] at hw
      rw [hcE]; exact hXw hw
    · rw [bc μ m e, hs2.ne e]
      rcases J.c b hb with h | ⟨c', e1, e2, e3⟩
      · exact .inl h
      · have hne : c' ≠ c := fun e => by rw [e, hcB] at e1; exact hBw.2 b e1
        exact .inr ⟨c', by rw [hs.ne hne]; exact e1, e2, e3⟩
  · by_cases e : c' = c
    · subst e
      exact .inr ⟨hp.nx, m, hs.same, hm, aD _ _ _, J.nx⟩
    · rw [hs.ne e]
      rcases J.d c' with h | ⟨id, m', h1, h2, h3, h4⟩
      · exact .inl h
      · exact .inr ⟨id, m', h1, h2, ck m hid _ _ h3, h4⟩
theorem uA {z : IK} (hz : IOk V z) {R : ab} (hR : R ≠ .fail) {c : Nat} {hc hp : Hp} {b : Bool} {k : Nat → Hp → Hp → Bool → ab} (h : ib M z c hc hp b k = R) : ∃ id hc' hp' b', k id hc' hp' b' = R ∧ (b = true → b' = true) ∧
    ∀ (E : iB), eP V E → (b' = false ∨ E.full) → ∀ μ, fY V E hc hp μ → ∃ μ', fY V E hc' hp' μ' ∧ Le μ μ' ∧ ∀ m, E.μc c = some m → μ' id = some m := by
  have g := bu ok hR h
  have flag : ∀ (rw b : Bool), (b = true → (Bool.rec (motive := fun _ => Bool) true b rw : Bool) = true) ∧ ((Bool.rec (motive := fun _ => Bool) true b rw : Bool) = false → rw = true ∧ b = false) := fun rw b => by cases rw <;> cases b <;> simp
  have row : ∀ {E : iB} {rw fl fl' : Bool} {y s s' : Nat} {t r : Row} {μ : Mu} {id : Nat} {m : Mp}, eP V E → (E.full ∨ rw = true) → E.μc c = some m → E.hc.at c = .row rw fl y s t → s' ≤ s → (∀ i, i < s' → ∀ u, ae E.w E.Fc E.μc (cellAt y t i) u → ae E.w E.Ft (jK μ id m) (cellAt y r i) u) → (fl' = true → ∀ i, i < s' → (cellAt y r i).aS = true) → dN V E.w E.Ft (jK μ id m) id (.row rw fl' y s' r) := by
    intro E rw fl fl' y s s' t r μ id m ho hor hm hE hss hcell hfree
    have hb := ho.hc.aF c
    rw [hE] at hb
    obtain ⟨m', cs, T, fz, p1, p2, p3, p4, p5, p6, p7⟩ := hb
    rw [hm] at p1; cases p1
    refine ⟨m, cs, T, fz, aD _ _ _, p2, p3, fun i hi => ?_, hfree, fun e => ⟨(p6 e).1, ho.ft c m hm (p6 e).2⟩, fun e => ?_⟩
    · obtain ⟨u, u1, u2, u3⟩ := p4 i (by omega)
      exact ⟨u, u1, u2, hcell i hi u u3⟩
    · rcases hor with q | q
      · exact ho.full q _ (p7 e)
      · rw [e] at q; cases q
  cases hB : hc.at c with
  | dead => rw [hB] at g; exact aa hR g
  | loop => rw [hB] at g; exact aa hR g
  | fwd id =>
    rw [hB] at g
    refine ⟨id, hc, hp, b, g, fun h => h, fun E ho _ μ J => ⟨μ, J, fun _ _ h => h, fun m hm => ?_⟩⟩
    rcases J.d c with e | ⟨id', m', e, h2, h3, _⟩
    · have := ho.hc.aF c
      rw [← e, hB] at this; exact this.elim
    · rw [hB] at e; cases e
      rw [hm] at h2; cases h2
      exact h3
  | row rw fl y s t =>
    rw [hB] at g
    rcases ar hR (show when fl (hc.put M c (.fwd hp.nx) fun hc => (jr M).f hp (.row rw fl y s t) fun id hp => k id hc hp (Bool.rec (motive := fun _ => Bool) true b rw))
      ((ir M z (Nat.div s y)).f t 0 .lf 0 hc hp b fun r hc hp b => hc.get M c fun B2 => B2.o5 fun _ _ _ _ _ => aA (Nat.mul (Nat.div s y) y) fun s => hc.put M c (.fwd hp.nx) fun hc => (jr M).f hp (.row rw false y s r) fun id hp => k id hc hp (Bool.rec (motive := fun _ => Bool) true b rw)) = R from g) with ⟨hfl, g1⟩ | ⟨_, g1⟩
    · obtain ⟨hc', hp', g2, hs1, hs2, hn⟩ := jQ ok hR (k := fun id hc hp => k id hc hp (Bool.rec (motive := fun _ => Bool) true b rw)) g1
      refine ⟨_, hc', hp', _, g2, (flag rw b).1, fun E ho hor μ J => jR hs1 hs2 hn (B := .row rw fl y s t) ⟨by simp, by simp⟩ (fun h => h) ho J hB fun m hm hE _ => row ho (by
        rcases hor with q | q
        · exact .inr ((flag rw b).2 q).1
        · exact .inl q) hm hE (Nat.le_refl s) (fun i hi u hu => ?_) (fun _ i hi => ?_)⟩
      · have hb := ho.hc.aF c
        rw [hE] at hb
        obtain ⟨_, _, _, _, _, _, _, _, p5, _⟩ := hb
        exact hu.a0M (p5 hfl i hi) _ _ _
      · have hb := ho.hc.aF c
        rw [hE] at hb
        obtain ⟨_, _, _, _, _, _, _, _, p5, _⟩ := hb
        exact p5 hfl i hi
    · obtain ⟨r, hc1, hp1, b1, g2, hb1, _, H1⟩ := a0V ok hz hR _ g1
      have g3 := bu ok hR g2
      obtain ⟨rw2, fl2, y2, s2, t2, hB2, g4⟩ := ki hR g3
      rw [aw] at g4
      obtain ⟨hc', hp', g5, hs1, hs2, hn⟩ := jQ ok hR (k := fun id hc hp => k id hc hp (Bool.rec (motive := fun _ => Bool) true b1 rw)) g4
      refine ⟨_, hc', hp', _, g5, fun e => (flag rw b1).1 (hb1 e), fun E ho hor μ J => ?_⟩
      obtain ⟨μ1, J1, l1, s1⟩ := H1 E ho (a1Z (flag rw b1).1 hor) μ J
      have hE0 : E.hc.at c = .row rw fl y s t := by
        rcases J.d c with e | ⟨id, m, e, _⟩
        · rw [← e]; exact hB
        · rw [hB] at e; cases e
      have hB3 : hc1.at c = .row rw fl y s t := by
        rcases J1.d c with e | ⟨id, m, e, _⟩
        · rw [e]; exact hE0
        · rw [hB2] at e; cases e
      obtain ⟨μ2, J2, l2, p2⟩ := jR hs1 hs2 hn (B := .row rw fl y s t) ⟨by simp, by simp⟩ (fun h => h) ho J1 hB3 fun m hm hE hid => row ho (by
        rcases hor with q | q
        · exact .inr ((flag rw b1).2 q).1
        · exact .inl q) hm hE (Nat.div_mul_le_self s y) (fun i hi u hu => by
          have := ug (y := y) (n := s / y) (t := t) (r := r) (fun j hj => by
            have := s1 j hj
            rw [Nat.zero_add] at this; exact this) hi hu
          exact this.mono (fun _ _ => rfl) (fun _ h => h) (ck m hid)) (fun e => Bool.noConfusion e)
      exact ⟨μ2, J2, fun x m hx => l2 x m (l1 x m hx), p2⟩
  | map n t =>
    rw [hB] at g
    obtain ⟨r, hc1, hp1, b1, g2, hb1, _, H1⟩ := a0V ok hz hR _ (show (ir M z (Nat.mul 2 n)).f t 0 .lf 0 hc hp b (fun r hc hp b => hc.get M c fun B2 => B2.eX fun _ _ => hc.put M c (.fwd hp.nx) fun hc => (jr M).f hp (.map n r) fun id hp => k id hc hp b) = R from g)
    have g3 := bu ok hR g2
    obtain ⟨n2, t2, hB2, g4⟩ := eY hR g3
    obtain ⟨hc', hp', g5, hs1, hs2, hn⟩ := jQ ok hR (k := fun id hc hp => k id hc hp b1) g4
    refine ⟨_, hc', hp', _, g5, hb1, fun E ho hor μ J => ?_⟩
    obtain ⟨μ1, J1, l1, s1⟩ := H1 E ho hor μ J
    have hE0 : E.hc.at c = .map n t := by
      rcases J.d c with e | ⟨id, m, e, _⟩
      · rw [← e]; exact hB
      · rw [hB] at e; cases e
    have hB3 : hc1.at c = .map n t := by
      rcases J1.d c with e | ⟨id, m, e, _⟩
      · rw [e]; exact hE0
      · rw [hB2] at e; cases e
    obtain ⟨μ2, J2, l2, p2⟩ := jR hs1 hs2 hn (B := .map n t) ⟨by simp, by simp⟩ (fun h => h) ho J1 hB3 fun m hm hE hid => by
      have hb := ho.hc.aF c
      rw [hE] at hb
      obtain ⟨m', es, clk, p1, p2, p3, p4, p5⟩ := hb
      rw [hm] at p1; cases p1
      refine ⟨m, es, clk, aD _ _ _, p2, ho.ft c m hm p3, p4, fun i hi => ?_⟩
      obtain ⟨en, e1, e2, e3⟩ := p5 i hi
      have q1 := s1 (2 * i) (by show 2 * i < 2 * n; omega)
      have q2 := s1 (2 * i + 1) (by show 2 * i + 1 < 2 * n; omega)
      rw [Nat.zero_add] at q1 q2
      exact ⟨en, e1, (q1.val _ e2).mono (fun _ _ => rfl) (fun _ h => h) (ck m hid), (q2.val _ e3).mono (fun _ _ => rfl) (fun _ h => h) (ck m hid)⟩
    exact ⟨μ2, J2, fun x m hx => l2 x m (l1 x m hx), p2⟩
theorem a4z {z : IK} (hz : IOk V z) : IOk V (impS M z) := by
  intro v hc hp b k R hR h
  have same : ∀ {v : AV}, v.aS = true → (∀ l n, v ≠ .agg l n) → k v hc hp b = R → ∃ v' hc' hp' b', k v' hc' hp' b' = R ∧ (b = true → b' = true) ∧ ∀ (E : iB), eP V E → (b' = false ∨ E.full) → ∀ μ, fY V E hc hp μ → ∃ μ', fY V E hc' hp' μ' ∧ Le μ μ' ∧ bg E.w E.Fc E.μc E.w E.Ft μ' v v' := fun {v} hf hn g =>
    ⟨v, hc, hp, b, g, fun h => h, fun E _ _ μ J => ⟨μ, J, fun _ _ h => h, .plain hn fun u hu => hu.a0M hf _ _ _⟩⟩
  have lists : ∀ {l : Row} {q : Row → AV}, (∀ {w w' : World} {F F' : Nat → Prop} {μ μ' : Mu} {r : Row}, len r = len l → (∀ i u, ae w F μ (nth l i) u → ae w' F' μ' (nth r i) u) → bg w F μ w' F' μ' v (q r)) → il z l hc hp b (fun r hc hp b => k (q r) hc hp b) = R → ∃ v' hc' hp' b', k v' hc' hp' b' = R ∧ (b = true → b' = true) ∧ ∀ (E : iB), eP V E → (b' = false ∨ E.full) → ∀ μ, fY V E hc hp μ → ∃ μ', fY V E hc' hp' μ' ∧ Le μ μ' ∧ bg E.w E.Fc E.μc E.w E.Ft μ' v v' := fun {l q} hq g => by
    obtain ⟨r, hc', hp', b', g2, hb, hl, H⟩ := a0S hz hR g
    exact ⟨_, hc', hp', b', g2, hb, fun E ho hor μ J => let ⟨μ', q1, q2, q3⟩ := H E ho hor μ J; ⟨μ', q1, q2, hq hl q3⟩⟩
  have fixed : ∀ {v : AV}, (∀ l n, v ≠ .agg l n) → (∀ (E : iB), eP V E → E.full → ∀ (μ : Mu) u, ae E.w E.Fc E.μc v u → ae E.w E.Ft μ v u) → k v hc hp true = R → ∃ v' hc' hp' b', k v' hc' hp' b' = R ∧ (b = true → b' = true) ∧ ∀ (E : iB), eP V E → (b' = false ∨ E.full) → ∀ μ, fY V E hc hp μ → ∃ μ', fY V E hc' hp' μ' ∧ Le μ μ' ∧ bg E.w E.Fc E.μc E.w E.Ft μ' v v' := fun {v} hn hv g =>
    ⟨v, hc, hp, true, g, fun _ => rfl, fun E ho hor μ J => ⟨μ, J, fun _ _ h => h, .plain hn fun u hu => hv E ho (hor.resolve_left (by simp)) μ u hu⟩⟩
  cases v with
  | int => exact same rfl (fun _ _ => by simp) h
  | bool => exact same rfl (fun _ _ => by simp) h
  | str => exact same rfl (fun _ _ => by simp) h
  | ptr c o =>
    obtain ⟨id, hc', hp', b', g, hb, H⟩ := uA ok hz hR (show ib M z c hc hp b (fun id hc hp b => k (.ptr id o) hc hp b) = R from h)
    refine ⟨_, hc', hp', b', g, hb, fun E ho hor μ J => ?_⟩
    obtain ⟨μ', q1, q2, q3⟩ := H E ho hor μ J
    exact ⟨μ', q1, q2, .plain (fun _ _ => by simp) fun u hu => by
      cases hu with
      | ptr h => exact .ptr (q3 _ h)⟩
  | ms c o n y =>
    obtain ⟨id, hc', hp', b', g, hb, H⟩ := uA ok hz hR (show ib M z c hc hp b (fun id hc hp b => k (.ms id o n y) hc hp b) = R from h)
    refine ⟨_, hc', hp', b', g, hb, fun E ho hor μ J => ?_⟩
    obtain ⟨μ', q1, q2, q3⟩ := H E ho hor μ J
    exact ⟨μ', q1, q2, .plain (fun _ _ => by simp) fun u hu => by
      cases hu with
      | ms h h1 h2 => exact .ms (q3 _ h) h1 h2
      | pN => exact .pN⟩
  | vs t o n y => exact fixed (fun _ _ => by simp) (fun E ho hf μ u hu => by
      cases hu with
      | vs us h1 h2 h3 h4 h5 => exact .vs us (ho.full hf _ h1) h2 h3 h4 fun i hi => (h5 i hi).mono (fun _ _ => rfl) (ho.full hf) (fun _ _ h => h)
      | pP => exact .pP) h
  | agg l n =>
    obtain ⟨p, hp1, g1⟩ := dW (show gD l (fun p => when p (k (.agg l n) hc hp b) (il z l hc hp b fun r hc hp b => k (.agg r n) hc hp b)) = R from h)
    rcases ar hR g1 with ⟨e, g2⟩ | ⟨_, g2⟩
    · exact ⟨_, hc, hp, b, g2, fun h => h, fun E _ _ μ J => ⟨μ, J, fun _ _ h => h, .agg fun i u hu => hu.a0M (kU (hp1 e) i) _ _ _⟩⟩
    · exact lists (q := fun r => .agg r n) (fun _ h => .agg h) g2
  | bM t n => exact lists (q := fun r => .bM r n) (fun hl h => .bM hl h) h
  | x gg t a p c =>
    have h' : when (Nat.ble 6 gg) (when (Nat.beq gg 12) (il z t hc hp b fun r hc hp b => k (.x gg r a p c) hc hp b) (k (.x gg t a p c) hc hp b))
      (when (Nat.beq gg 1) (k (.x gg t a p c) hc hp true) (when (Nat.beq gg 3) (il z t hc hp b fun r hc hp b => k (.x gg r a p c) hc hp b) (aq (Nat.beq gg 4) (ib M z a hc hp b fun id hc hp b => k (.x 4 .lf id p c) hc hp b)))) = R := h
    rcases ar hR h' with ⟨e6, g1⟩ | ⟨_, g1⟩
    · rw [aK] at e6
      rcases ar hR g1 with ⟨e, g2⟩ | ⟨e, g2⟩
      · rw [an] at e; subst e
        exact lists (q := fun r => .x 12 r a p c) (fun _ h => .iface h) g2
      · have hne : gg ≠ 12 := fun q => by rw [q] at e; cases e
        refine ⟨_, hc, hp, b, g2, fun h => h, fun E _ _ μ J => ⟨μ, J, fun _ _ h => h, .plain (fun _ _ => by simp) fun u hu => ?_⟩⟩
        cases hu with
        | iface => exact absurd rfl hne
        | emp => exact .emp
        | mz => exact .mz
        | ju => exact .ju
        | mw => exact .mw
        | my => exact .my
        | la => exact .la
        | uu => omega
        | gV => omega
        | fn => omega
        | map => omega
        | yld => omega
    · rcases ar hR g1 with ⟨e, g2⟩ | ⟨_, g2⟩
      · rw [an] at e; subst e
        exact fixed (fun _ _ => by simp) (fun E ho hf μ u hu => by
          cases hu with
          | gV us h1 h3 h4 h5 => exact .gV us (ho.full hf _ h1) h3 h4 fun i hi => (h5 i hi).mono (fun _ _ => rfl) (ho.full hf) (fun _ _ h => h)) g2
      · rcases ar hR g2 with ⟨e, g3⟩ | ⟨_, g3⟩
        · rw [an] at e; subst e
          exact lists (q := fun r => .x 3 r a p c) (fun hl h => .fn hl h) g3
        · obtain ⟨e, g4⟩ := ah hR g3
          rw [an] at e; subst e
          obtain ⟨id, hc', hp', b', g, hb, H⟩ := uA ok hz hR g4
          refine ⟨_, hc', hp', b', g, hb, fun E ho hor μ J => ?_⟩
          obtain ⟨μ', q1, q2, q3⟩ := H E ho hor μ J
          exact ⟨μ', q1, q2, .plain (fun _ _ => by simp) fun u hu => by
            cases hu with
            | map h => exact .map (q3 _ h)⟩
theorem a0T (n : Nat) : IOk V (imp M n) := by
  induction n with
  | zero => exact fun _ _ _ _ _ _ hR h => aa hR h
  | succ n ih => exact a4z ok ih
end
theorem gv {μ : Mu} {B : Nat} : ¬ WB .empty μ B := fun ⟨b, m, h, _⟩ => by
  have : Hp.empty.at b = .dead := lW _ _
  rw [this] at h; exact h
theorem au.grow {V : Env} {μ : Mu} {F F' : Nat → Prop} {h : Hp} {w w' : World} (H : au V μ F h w) (hs : w.heap.size ≤ w'.heap.size) (hk : ∀ B, B < w.heap.size → w'.heap[B]? = w.heap[B]?) (hF : ∀ B, F B → F' B) (hn : ∀ B, F' B → F B ∨ w.heap.size ≤ B) (hi : ∀ B, F' B → B < w'.heap.size) : au V μ F' h w' :=
  ⟨fun b => (H.aF b).keep (fun B hB => hk B (H.fN B hB)) hF (fun _ _ h => h) (fun m hm => hk _ (H.et b m hm).2) (fun m hm _ hnF hF' => (hn _ hF').elim hnF fun h => by have := (H.et b m hm).2; omega), H.dw, fun b m hm => let ⟨q1, q2⟩ := H.et b m hm; ⟨q1, Nat.lt_of_lt_of_le q2 hs⟩, hi, H.jk.mono (fun B hB => hk B (H.fN B hB)) hF⟩
theorem wM {V : Env} {E : iB} {μ : Mu} {Fa : Nat → Prop} {w : World} {hc' hp' : Hp} (hs : E.s = w.heap.size) (H : au V E.μ Fa E.hp w) (ho : eP V E) (J : fY V E hc' hp' μ) (hsize : w.heap.size ≤ E.w.heap.size) (hk : ∀ B, B < w.heap.size → E.w.heap[B]? = w.heap[B]?) (hF : ∀ B, Fa B → E.Ft B) (hn : ∀ B, E.Ft B → Fa B ∨ w.heap.size ≤ B) (hio : bA w E.w) :
    Ext E.μ Fa E.hp w μ E.Ft hp' E.w ∧ ∀ b, μ b ≠ none → E.μ b ≠ none ∨ E.hp.nx ≤ b := by
  have new : ∀ b m, E.hp.nx ≤ b → μ b = some m → w.heap.size ≤ m.aF := fun b m hb hm => by
    rcases J.c b hb with e | ⟨c, _, e, _⟩
    · rw [e] at hm; cases hm
    · rw [e] at hm; rw [← hs]; exact ho.new c m hm
  refine ⟨⟨fun b m hm => ?_, hF, hsize, fun B hB _ => hk B hB, fun B ⟨b, m, h1, h2, h3, h4⟩ => ?_, fun B ⟨b, m, h1, h3, h4⟩ => ?_, fun B hB => (hn B hB).imp (fun h => h) .inl, fun b m hm => ?_, J.nx, J.pr, J.rb, hio⟩, fun b hb => ?_⟩
  · rw [(J.b b (H.et b m hm).1).2]; exact hm
  · by_cases e : b < E.hp.nx
    · obtain ⟨q1, q2⟩ := J.b b e
      exact .inr ⟨b, m, q1 ▸ h1, J.pr ▸ h2, q2 ▸ h3, h4⟩
    · exact .inl (h4 ▸ new b m (by omega) h3)
  · by_cases e : b < E.hp.nx
    · obtain ⟨q1, q2⟩ := J.b b e
      exact .inr ⟨b, m, q1 ▸ h1, q2 ▸ h3, h4⟩
    · exact .inl (h4 ▸ new b m (by omega) h3)
  · by_cases e : b < E.hp.nx
    · exact .inl ((J.b b e).2 ▸ hm)
    · refine .inr ⟨?_, .inl (new b m (by omega) hm)⟩
      cases hx : E.μ b with
      | none => rfl
      | some m' => exact absurd (H.et b m' hx).1 e
  · by_cases e : b < E.hp.nx
    · exact .inl ((J.b b e).2 ▸ hb)
    · exact .inr (by omega)
def j6 (V : Env) (f : FuncId) (a : Row) (hp : Hp) (v : AV) (hp' : Hp) : Prop := ∀ (w : World) (μ : Mu) (F : Nat → Prop) (args : Array Value) (n : Nat), au V μ F hp w → eI w F μ a args →
  CallsIn (Wf none) n V.P f args w fun e w' => ∃ x, e = .returned x ∧ ∃ μ' F', ae w' F' μ' v x ∧ (∀ b, μ' b ≠ none → μ b ≠ none ∨ hp.nx ≤ b) ∧ au V μ' F' hp' w' ∧ Ext μ F hp w μ' F' hp' w'
section
variable {V : Env} {M : Mem} (ok : aT M) {R : ab} (hR : R ≠ .fail) {f : FuncId} {G : ao} (hG : ai V f G)
include hR hG
theorem iX {a : Row} {hp : Hp} {k : AV → Hp → ab} (h : cj G a hp k = R) : Can V.P f ∧ ∃ v hp', k v hp' = R ∧ j6 V f a hp v hp' := by
  cases hb : G.f a hp with
  | val v h1 =>
    have h' : Hp.rec (motive := fun _ => ab) (fun t nx _ _ => Hp.rec (motive := fun _ => ab) (fun _ _ pr rb => k v ⟨t, nx, pr, rb⟩) hp) h1 = R := by
      unfold cj at h
      rw [hb] at h; exact h
    obtain ⟨hcan, v', hp', e, H⟩ := hG a hp _ hb (by simp)
    injection e with ev eh
    subst ev; subst eh
    refine ⟨hcan, v, ⟨h1.t, h1.nx, hp.pr, hp.rb⟩, h', fun w μ F args n hH ha => (H w μ F args n hH ha).mono fun e w' ⟨x, e1, μ', F', hv1, h2, h3⟩ => ⟨x, e1, μ', F', hv1, h3.ids, ⟨h2.aF, h2.dw, h2.et, h2.fN, h2.jk⟩, ?_⟩⟩
    have E := h3.ext
    have hpr : h1.pr = hp.pr := E.pr
    exact ⟨E.mu, E.fr, E.size, E.keep, fun B ⟨b, m, o1, o2, o3, o4⟩ => E.own B ⟨b, m, o1, fun hm => o2 (show b ∈ hp.pr from hpr ▸ hm), o3, o4⟩, E.wb, E.iq, E.eW, E.nx, rfl, rfl, E.io⟩
  | _ => unfold cj at h; rw [hb] at h; exact aa hR h
include ok
theorem ot {a0 a : Row} {hp ho : Hp} {k : AV → Hp → ab} (hfr : ∀ (w : World) (F : Nat → Prop) (μ : Mu), au V μ F hp w → ∃ F', au V μ F' ho w ∧ Ext μ F hp w μ F' ho w ∧ ∀ i u, ae w F μ (nth a0 i) u → ae w F' bz (nth a i) u) (hlen : len a = len a0) (h : mG M G a hp ho k = R) : Can V.P f ∧ ∃ v hp', k v hp' = R ∧ j6 V f a0 hp v hp' := by
  cases hb : G.f a .empty with
  | val v hc =>
    have h' : (imp M 24).f v hc hp false (fun v' _ hp' b => when b ((imp M 24).f v hc ho false fun v _ hp _ => k v hp) (k v' hp')) = R := by
      unfold mG at h
      rw [hb] at h; exact h
    obtain ⟨hcan, v0, hc0, e, H⟩ := hG a .empty _ hb (by simp)
    injection e with ev eh
    subst ev; subst eh
    have call : ∀ (w : World) (μ : Mu) (F : Nat → Prop) (args : Array Value) (n : Nat), au V μ F hp w → eI w F μ a0 args → ∃ F1, au V μ F1 ho w ∧ Ext μ F hp w μ F1 ho w ∧ CallsIn (Wf none) n V.P f args w fun e w' => ∃ x, e = .returned x ∧ ∃ μc Fc, ae w' Fc μc v x ∧ au V μc Fc hc w' ∧ bA w w' ∧ w.heap.size ≤ w'.heap.size ∧ (∀ B, B < w.heap.size → w'.heap[B]? = w.heap[B]?) ∧ (∀ c m, μc c = some m → w.heap.size ≤ m.aF) ∧ (∀ B, F1 B → Fc B) ∧ ∀ B, Fc B → F1 B ∨ w.heap.size ≤ B := by
      intro w μ F args n hH ha
      obtain ⟨F1, q1, q2, q3⟩ := hfr w F μ hH
      refine ⟨F1, q1, q2, ?_⟩
      have he : ∀ b, Hp.empty.at b = .dead := fun b => lW _ _
      have H0 : au V bz F1 .empty w := ⟨fun b => by rw [he]; exact trivial, fun b _ _ _ h1 => by rw [he] at h1; exact h1.elim, fun b m hm => (by cases hm), q1.fN, q1.jk⟩
      refine (H w bz F1 args n H0 ⟨hlen.trans ha.1, fun i u hu => q3 i u (ha.2 i u hu)⟩).mono fun e w' ⟨x, e1, μc, Fc, h1, h2, h3⟩ => ⟨x, e1, μc, Fc, h1, h2, h3.ext.io, h3.ext.size, fun B hB => h3.ext.keep B hB fun ho => gv ho.wb, fun c m hm => ?_, h3.ext.fr, fun B hB => ?_⟩
      · rcases h3.ext.eW c m hm with e | ⟨_, e | e⟩
        · cases e
        · exact e
        · exact absurd e.wb gv
      · rcases h3.ext.iq B hB with e | e | e
        · exact .inl e
        · exact .inr e
        · exact absurd e gv
    obtain ⟨v', hc', hp', b', g1, _, HI⟩ := a0T (V := V) ok 24 v hc hp false (fun v' _ hp' b => when b ((imp M 24).f v hc ho false fun v _ hp _ => k v hp) (k v' hp')) R hR h'
    refine ⟨hcan, ?_⟩
    rcases ar hR g1 with ⟨hb', g2⟩ | ⟨hb', g2⟩
    · obtain ⟨v2, hc2, hp2, b2, g3, _, HI2⟩ := a0T (V := V) ok 24 v hc ho false (fun v _ hp _ => k v hp) R hR g2
      refine ⟨v2, hp2, g3, fun w μ F args n hH ha => ?_⟩
      obtain ⟨F1, q1, q2, q3⟩ := call w μ F args n hH ha
      refine q3.mono fun e w' ⟨x, e1, μc, Fc, h1, h2, hio, hsz, hk, hnew, hF1, hFc⟩ => ⟨x, e1, ?_⟩
      let E : iB := ⟨w', μc, Fc, Fc, hc, ho, μ, w.heap.size, True⟩
      have hoE : eP V E := ⟨h2, hnew, q1.grow hsz hk hF1 hFc h2.fN, fun b m hm => (q1.et b m hm).2, fun _ _ _ h => h, fun _ _ h => h⟩
      obtain ⟨μ', J, hle, hs⟩ := HI2 E hoE (.inr trivial) μ ⟨hoE.hp, fun _ _ => ⟨rfl, rfl⟩, fun b hb => .inl (by
        cases hx : μ b with
        | none => rfl
        | some m => exact absurd (q1.et b m hx).1 (Nat.not_lt.2 hb)), fun c => .inl rfl, Nat.le_refl _, rfl, rfl⟩
      obtain ⟨x1, x2⟩ := wM (Fa := F1) (w := w) rfl q1 hoE J hsz hk hF1 hFc hio
      exact ⟨μ', Fc, hs.val x h1, fun b hb => (x2 b hb).imp (fun h => h) fun h => Nat.le_trans q2.nx h, J.a, q2.trans x1⟩
    · subst hb'
      refine ⟨v', hp', g2, fun w μ F args n hH ha => ?_⟩
      obtain ⟨F1, q1, q2, q3⟩ := call w μ F args n hH ha
      refine q3.mono fun e w' ⟨x, e1, μc, Fc, h1, h2, hio, hsz, hk, hnew, hF1, hFc⟩ => ⟨x, e1, ?_⟩
      let E : iB := ⟨w', μc, Fc, F, hc, hp, μ, w.heap.size, False⟩
      have hoE : eP V E := ⟨h2, hnew, hH.grow hsz hk (fun _ h => h) (fun _ h => .inl h) (fun B hB => Nat.lt_of_lt_of_le (hH.fN B hB) hsz), fun b m hm => (hH.et b m hm).2, fun c m hm _ hF => by
        have z1 := hnew c m hm
        have z2 := hH.fN _ hF
        omega, fun h => h.elim⟩
      obtain ⟨μ', J, hle, hs⟩ := HI E hoE (.inl rfl) μ ⟨hoE.hp, fun _ _ => ⟨rfl, rfl⟩, fun b hb => .inl (by
        cases hx : μ b with
        | none => rfl
        | some m => exact absurd (hH.et b m hx).1 (Nat.not_lt.2 hb)), fun c => .inl rfl, Nat.le_refl _, rfl, rfl⟩
      obtain ⟨x1, x2⟩ := wM (Fa := F) (w := w) rfl hH hoE J hsz hk (fun _ h => h) (fun _ h => .inl h) hio
      exact ⟨μ', F, hs.val x h1, x2, J.a, x1⟩
  | _ => unfold mG at h; rw [hb] at h; exact aa hR h
theorem nI {sh : Bool} {a : Row} {hp : Hp} {k : AV → Hp → ab} (h : nH M sh G a hp k = R) : Can V.P f ∧ ∃ v hp', k v hp' = R ∧ j6 V f a hp v hp' := by
  cases sh with
  | true => exact iX hR hG h
  | false =>
    have h' : ab.rec (motive := fun _ => ab) (fun _ _ => cj G a hp k) (fun _ _ _ => cj G a hp k) (fun _ _ => cj G a hp k) (fun v h => v.o8 fun r _ => mG M G r hp h k) (cj G a hp k) (zl (frz M 24) a hp fun r h => .val (.bM r 0) h) = R := h
    cases hz : zl (frz M 24) a hp fun r h => .val (.bM r 0) h with
    | val v ho =>
      obtain ⟨r, hp', e, hl, H⟩ := vP (abq (V := V) ok 24) (R := .val v ho) (by simp) hz
      cases e
      rw [hz] at h'
      exact ot ok hR hG H hl h'
    | _ => rw [hz] at h'; exact iX hR hG h'
end
theorem oX {C : Cx} {V : Env} (h : ∀ p ∈ C.fn, ai V p.1 p.2) (f : Nat) : ai V f (oW C f) := by
  unfold oW
  revert h
  generalize C.fn = l
  induction l with
  | nil => exact fun _ l hp R h hR => aa hR h
  | cons p l ih =>
    intro h
    show ai V f (Bool.rec (motive := fun _ => ao) (List.rec (motive := fun _ => ao) gG (fun a _ ih => Bool.rec (motive := fun _ => ao) ih a.2 (Nat.beq a.1 f)) l) p.2 (Nat.beq p.1 f))
    rw [aZ]
    by_cases e : p.1 = f
    · rw [if_pos (by rw [an]; exact e), ← e]; exact h p (List.mem_cons_self ..)
    · rw [if_neg (by rw [an]; exact e)]; exact ih fun q hq => h q (List.mem_cons_of_mem _ hq)
theorem wh {R : ab} {b : Row} : ∀ {a : Row} {k : Row → ab}, app a b k = R → ∃ r, k r = R ∧ len r = len a + len b ∧ ∀ i, nth r i = if i < len a then nth a i else nth b (i - len a)
  | .lf, k, h => ⟨b, h, by show _ = 0 + _; omega, fun i => by show nth b i = if i < 0 then _ else nth b (i - 0); rw [if_neg (Nat.not_lt_zero _)]; rfl⟩
  | .nd v x a, k, h => by
    obtain ⟨r, h1, h2, h3⟩ := wh (a := a) (k := fun r => k (.nd v .lf r)) h
    refine ⟨_, h1, by show len r + 1 = len a + 1 + len b; omega, fun i => ?_⟩
    cases i with
    | zero => exact (if_pos (show 0 < len a + 1 from Nat.succ_pos _)).symm
    | succ i =>
      show nth r i = if i + 1 < len a + 1 then nth a i else nth b (i + 1 - (len a + 1))
      rw [h3 i]
      by_cases e : i < len a
      · rw [if_pos e, if_pos (by omega)]
      · rw [if_neg e, if_neg (by omega)]; congr 1; omega
theorem iY {R : ab} (hR : R ≠ .fail) {b : Row} : ∀ {n : Nat} {a : Row} {k : Row → ab}, kD n a b k = R → ∃ r, k r = R ∧ n ≤ len a ∧ len r = len a + len b ∧ ∀ i, nth r i = if i < n then nth a i else if i < n + len b then nth b (i - n) else nth a (i - len b)
  | 0, a, k, h => by
    obtain ⟨r, h1, h2, h3⟩ := wh (show app b a k = R from h)
    refine ⟨r, h1, Nat.zero_le _, by omega, fun i => ?_⟩
    rw [h3 i, if_neg (Nat.not_lt_zero _)]
    simp only [Nat.zero_add, Nat.sub_zero]
  | n + 1, a, k, h => by
    cases a with
    | lf => exact aa hR h
    | nd v x a =>
      obtain ⟨r, h1, h2, h3, h4⟩ := iY hR (n := n) (a := a) (k := fun r => k (.nd v .lf r)) h
      refine ⟨_, h1, Nat.succ_le_succ h2, by show len r + 1 = len a + 1 + len b; omega, fun i => ?_⟩
      cases i with
      | zero => rw [if_pos (Nat.succ_pos _)]; rfl
      | succ i =>
        show nth r i = if i + 1 < n + 1 then nth a i else if i + 1 < n + 1 + len b then nth b (i + 1 - (n + 1)) else nth (.nd v x a) (i + 1 - len b)
        rw [h4 i]
        by_cases e : i < n
        · rw [if_pos e, if_pos (show i + 1 < n + 1 by omega)]
        · rw [if_neg e, if_neg (show ¬ i + 1 < n + 1 by omega)]
          by_cases e2 : i < n + len b
          · rw [if_pos e2, if_pos (show i + 1 < n + 1 + len b by omega)]; congr 1; omega
          · rw [if_neg e2, if_neg (show ¬ i + 1 < n + 1 + len b by omega)]
            have : i + 1 - len b = (i - len b) + 1 := by omega
            rw [this]; rfl
theorem dF {P : Program} {f : FuncId} (h : Can P f) (args : Array Value) (w : World) : (callFunc f args).run P w = .ok (.enter f args) w := by
  obtain ⟨fn, h1, h2, h3⟩ := h
  have n1 : ¬ fn.name = "runtime.NumGoroutine" := by simpa using h3
  have b1 : ¬ fn.body = none := fun e => by rw [e] at h2; cases h2
  simp [callFunc, h1, n1, b1]
def lh (V : Env) (b : Nat) (l : Row) (hp : Hp) (v : AV) (hp' : Hp) : Prop := ∀ (w : World) (μ : Mu) (F : Nat → Prop) (m : Mp) (args : Array Value) (r : Option Nat) (n : Nat), au V μ F hp w → μ b = some m → eI w F μ l args →
  ∃ f tmps a c, (Instr.yield m.aF args).run V.P w = .ok (.round m.aF f tmps a c) w ∧ RoundIn (Wf r) n V.P m.aF f tmps a c w fun e w' => ∃ x, e = .returned x ∧ ∃ μ' F', ae w' F' μ' v x ∧ (∀ b, μ' b ≠ none → μ b ≠ none ∨ hp.nx ≤ b) ∧ au V μ' F' hp' w' ∧ Ext μ F hp w μ' F' hp' w'
def Yields (C : Cx) (V : Env) : Prop := ∀ (b : Nat) (l : Row) (hp : Hp) (k : AV → Hp → ab) (R : ab), R ≠ .fail → a3s C b l hp k = R → ∃ v hp', k v hp' = R ∧ lh V b l hp v hp'
theorem lH {r : Option Nat} {n : Nat} {P : Program} {f : FuncId} {args : Array Value} {w : World} {Q : Ending → World → Prop} (h : CallsIn (Wf none) n P f args w Q) : CallsIn (Wf r) n P f args w Q := h
section
variable {V : Env} {O : Operand → AV} {o : Oper} {id : Nat} {hp hp' : Hp} {v : AV}
theorem rK {f : Operand} {aas : Array Operand} {ts : Array TypeId} (hop : o.op = .call ⟨.value f, aas, ts⟩) {fid : FuncId} {l : Row} (hcan : Can V.P fid) (hd : j6 V fid l hp v hp')
    (hargs : ∀ {w : World} {F : Nat → Prop} {μ : Mu} {ρ : Operand → Value}, iC w F μ O o.op.operands.toList ρ → ∃ fs cs, ρ f = .func (.func fid) fs cs ∧ eI w F μ l (fs ++ aas.map ρ ++ cs)) : ep V O o id hp v hp' 3 := by
  refine .other fun {w F μ a r n Q K} hO hid hH hK => ⟨fun _ _ => trivial, ?_⟩
  obtain ⟨fs, cs, hf, ha⟩ := hargs hO
  have hnd : ∀ c, o.op ≠ .defer c := fun c e => by rw [hop] at e; cases e
  have e : (execOp a.eval o).run V.P w = .ok (.enter fid (fs ++ aas.map a.eval ++ cs)) w := by
    have e1 : execOp a.eval o = (do let d ← resolve a.eval ⟨.value f, aas, ts⟩ o.type; invoke d.target d.args) := by simp only [execOp, hop]
    rw [e1]
    simp only [resolve, hf, Deferred.ofValue, Sem.run_bind, Sem.run_pure, invoke]
    exact dF hcan _ _
  rw [Oper.semAt_eq _ _ _ hnd, e]
  refine ⟨(fun h => by cases h), lH ((hd w μ F _ (n - 1) hH ha).mono fun e w' ⟨x, e1, μ', F', h1, h2, h3, h4⟩ => ?_)⟩
  subst e1
  exact hK x w' μ' F' h1 (fun b hb => (h2 b hb).imp (fun h => h) .inr) h3 h4
theorem yJ {f : Operand} {aas : Array Operand} {ts : Array TypeId} (hop : o.op = .call ⟨.value f, aas, ts⟩) {b : Nat} {l : Row} (hd : lh V b l hp v hp')
    (hargs : ∀ {w : World} {F : Nat → Prop} {μ : Mu} {ρ : Operand → Value}, iC w F μ O o.op.operands.toList ρ → ∃ m, μ b = some m ∧ ρ f = .func (.yield m.aF) #[] #[] ∧ eI w F μ l (aas.map ρ)) : ep V O o id hp v hp' 3 := by
  refine .other fun {w F μ a r n Q K} hO hid hH hK => ⟨fun _ _ => trivial, ?_⟩
  obtain ⟨m, hm, hf, ha⟩ := hargs hO
  have hnd : ∀ c, o.op ≠ .defer c := fun c e => by rw [hop] at e; cases e
  obtain ⟨fn, tmps, x, y, hy, hr⟩ := hd w μ F m _ r (n - 1) hH hm ha
  have e : (execOp a.eval o).run V.P w = .ok (.round m.aF fn tmps x y) w := by
    have e1 : execOp a.eval o = (do let d ← resolve a.eval ⟨.value f, aas, ts⟩ o.type; invoke d.target d.args) := by simp only [execOp, hop]
    rw [e1]
    simp only [resolve, hf, Deferred.ofValue, Sem.run_bind, Sem.run_pure, invoke, Array.empty_append]
    exact hy
  rw [Oper.semAt_eq _ _ _ hnd, e]
  refine ⟨(fun h => by cases h), hr.mono fun e w' ⟨x, e1, μ', F', h1, h2, h3, h4⟩ => ?_⟩
  subst e1
  exact hK x w' μ' F' h1 (fun b hb => (h2 b hb).imp (fun h => h) .inr) h3 h4
end
theorem vh {f : Operand} {aas : Array Operand} {ts : Array TypeId} {o : Oper} (hop : o.op = .call ⟨.value f, aas, ts⟩) : f ∈ o.op.operands.toList ∧ ∀ x ∈ aas.toList, x ∈ o.op.operands.toList := by
  rw [hop]
  simp [Op.operands, Call.operands]
  exact fun x hx => .inr hx
theorem a3Q {C : Cx} {vs : Vs} (ok : aT C.M) (hfn : ∀ p ∈ C.fn, ai (C.env vs) p.1 p.2) (hy : Yields C (C.env vs)) : fh C (C.env vs) := by
  intro g P k R sk fr hp id o f aas ts hR hop h
  obtain ⟨hm, hms⟩ := vh hop
  have hnd : ∀ c, o.op ≠ .defer c := fun c e => by rw [hop] at e; cases e
  have hcls : 3 ≤ cls C.P o.op := by rw [hop]; simp [cls]
  have argsL : ∀ {l : Row}, len l = aas.toList.length → (∀ i x, aas.toList[i]? = some x → nth l i = ov C g sk fr x) → ∀ {w : World} {F : Nat → Prop} {μ : Mu} {ρ : Operand → Value}, iC w F μ (ov C g sk fr) o.op.operands.toList ρ → eI w F μ l (aas.map ρ) := by
    intro l h1 h2 w F μ ρ hO
    refine ⟨by rw [h1]; simp, fun i u hu => ?_⟩
    rw [Array.getElem?_map] at hu
    cases hx : aas[i]? with
    | none => rw [hx] at hu; cases hu
    | some x =>
      rw [hx] at hu
      cases hu
      have hx' : aas.toList[i]? = some x := by rw [Array.getElem?_toList]; exact hx
      rw [h2 i x hx']
      exact hO x (hms x (List.mem_of_getElem? hx'))
  have other : (⟨fun sk fr hp => (cH C g f).get sk fr fun fv => fv.tO fun i u f n m => (ak (aas.toList.map (cH C g))).f sk fr fun l => when (Nat.beq i 3) (kD n u l fun l => nH C.M (a3d C f) (oW C f) l hp fun v hp => P.f k sk fr hp v)
      (aq (Nat.beq i 5) (a3s C f l hp fun v hp => P.f k sk fr hp v))⟩ : Sm).run sk fr hp = R → Out C (C.env vs) g P k sk fr o id hp R := by
    intro h
    have h1 := aE hR (k := fun fv => fv.tO fun i u f n m => (ak (aas.toList.map (cH C g))).f sk fr fun l => when (Nat.beq i 3) (kD n u l fun l => nH C.M (a3d C f) (oW C f) l hp fun v hp => P.f k sk fr hp v)
      (aq (Nat.beq i 5) (a3s C f l hp fun v hp => P.f k sk fr hp v))) h
    obtain ⟨i, u, fid, n, m, hfv, h2⟩ := fE hR h1
    obtain ⟨l, h3, hl, hn⟩ := oH hR h2
    rcases ar hR h3 with ⟨hi, h4⟩ | ⟨_, h4⟩
    · rw [an] at hi
      subst hi
      obtain ⟨l2, h5, q1, q2, q3⟩ := iY hR h4
      obtain ⟨hcan, v, hp', h6, hd⟩ := nI ok hR (oX hfn fid) h5
      refine ⟨v, hp', 3, h6, rK hop hcan hd fun {w F μ ρ} hO => ?_, .inr (.inr (.inr ⟨rfl, hcls⟩)), hnd⟩
      have hc := hO f hm
      rw [hfv] at hc
      have hA := argsL hl hn hO
      generalize hρ : ρ f = vf at hc
      cases hc with
      | @fn _ _ _ _ _ fs cs us e1 e2 e3 hu hv hx =>
        refine ⟨fs, cs, rfl, ?_, fun j u' hj => ?_⟩
        · rw [q2, hA.1, e3]; simp only [Array.size_append]; omega
        · have hls : len l = (aas.map ρ).size := hA.1
          rw [q3]
          by_cases c1 : j < n
          · rw [if_pos c1]
            rw [Array.append_assoc, Array.getElem?_append_left (by omega), hu j c1] at hj
            cases hj
            exact hx j (by omega)
          · rw [if_neg c1]
            by_cases c2 : j < n + len l
            · rw [if_pos c2]
              rw [Array.getElem?_append_left (by rw [Array.size_append]; omega), Array.getElem?_append_right (by omega), e1] at hj
              exact hA.2 _ _ hj
            · rw [if_neg c2]
              rw [Array.getElem?_append_right (by rw [Array.size_append]; omega), Array.size_append, e1, ← hls] at hj
              have hjm : j - (n + len l) < m := by
                rcases Nat.lt_or_ge (j - (n + len l)) m with q | q
                · exact q
                · rw [Array.getElem?_eq_none (by omega)] at hj; cases hj
              rw [hv _ hjm] at hj
              cases hj
              have hix : j - len l = n + (j - (n + len l)) := by omega
              rw [hix]
              exact hx _ (by omega)
    · obtain ⟨hi, h5⟩ := ah hR h4
      rw [an] at hi
      subst hi
      obtain ⟨v, hp', h6, hd⟩ := hy _ _ _ _ _ hR h5
      refine ⟨v, hp', 3, h6, yJ hop hd fun {w F μ ρ} hO => ?_, .inr (.inr (.inr ⟨rfl, hcls⟩)), hnd⟩
      have hc := hO f hm
      rw [hfv] at hc
      generalize hρ : ρ f = vf at hc
      cases hc with
      | yld hb => exact ⟨_, hb, rfl, argsL hl hn hO⟩
  cases f with
  | func fid =>
    have h0 : (ak (aas.toList.map (cH C g))).f sk fr (fun l => nH C.M (a3d C fid) (oW C fid) l hp fun v hp => P.f k sk fr hp v) = R := h
    obtain ⟨l, h1, hl, hn⟩ := oH hR h0
    obtain ⟨hcan, v, hp', h6, hd⟩ := nI ok hR (oX hfn fid) h1
    refine ⟨v, hp', 3, h6, rK hop hcan hd fun {w F μ ρ} hO => ?_, .inr (.inr (.inr ⟨rfl, hcls⟩)), hnd⟩
    have hc := hO _ hm
    have e0 : ov C g sk fr (.func fid) = .x 3 .lf fid 0 0 := rfl
    rw [e0] at hc
    have hA := argsL hl hn hO
    generalize hρ : ρ (.func fid) = vf at hc
    cases hc with
    | @fn _ _ _ _ _ fs cs us e1 e2 e3 hu hv hx =>
      have hf : fs = #[] := Array.size_eq_zero_iff.1 e1
      have hc : cs = #[] := Array.size_eq_zero_iff.1 e2
      subst hf; subst hc
      exact ⟨#[], #[], rfl, by rw [Array.empty_append, Array.append_empty]; exact hA⟩
  | tmp t => exact other h
  | const c => exact other h
  | global n => exact other h
def zN (C : Cx) (w : World) (F : Nat → Prop) (μ : Mu) (fr : Fr) (T : Array Value) : Prop := ∀ t j, idxOf t C.vars 0 = .f j → ae w F μ (fr.at j) (T.getD t undef)
def kr (T : Array Value) (l : List (Nat × Value)) : Array Value := l.foldl (fun T p => T.setIfInBounds p.1 p.2) T
theorem sQ {C : Cx} {R : ab} (hR : R ≠ .fail) : ∀ {ps : List Nat} {l : Row} {fr : Fr} {k : Fr → ab}, a3a C ps l fr k = R → ∃ fr', k fr' = R ∧ len l = ps.length ∧ ∀ {w : World} {F : Nat → Prop} {μ : Mu} {T : Array Value} {args : List Value}, C.nt ≤ T.size → zN C w F μ fr T → args.length = ps.length → (∀ i u, args[i]? = some u → ae w F μ (nth l i) u) →
    zN C w F μ fr' (kr T (ps.zip args)) ∧ (kr T (ps.zip args)).size = T.size
  | [], l, fr, k, h => by
    cases l with
    | lf => exact ⟨fr, h, rfl, fun _ hf _ _ => ⟨hf, rfl⟩⟩
    | nd v a r => exact aa hR h
  | p :: ps, l, fr, k, h => by
    cases l with
    | lf => exact aa hR h
    | nd v a r =>
      obtain ⟨hp, h1⟩ := ah hR (show aq (Nat.ble (Nat.succ p) C.nt) (Src.rec (motive := fun _ => ab) (fun _ => .fail) (fun _ => .fail) (fun i => (yD i).f fr v fun fr => a3a C ps r fr k) .fail (idxOf p C.vars 0)) = R from h)
      rw [aK] at hp
      rcases dB (l := C.vars) (t := p) (i := 0) with ⟨i, hi⟩ | hi
      · rw [hi] at h1
        obtain ⟨fr1, h2, h3⟩ := ji hR i (k := fun fr => a3a C ps r fr k) h1
        obtain ⟨fr', h4, h5, H⟩ := sQ hR h3
        refine ⟨fr', h4, congrArg (· + 1) h5, fun {w F μ T args} hT hf hl ha => ?_⟩
        cases args with
        | nil => cases hl
        | cons u us =>
          have h6 := H (w := w) (F := F) (μ := μ) (T := T.setIfInBounds p u) (args := us) (by simpa using hT) (fun t j hj => ?_) (by simpa using hl) (fun i u' e => ha (i + 1) u' e)
          · exact ⟨h6.1, h6.2.trans (by simp)⟩
          · rw [h2 j]
            by_cases e : j = i
            · subst e
              have : t = p := dI hj hi
              subst this
              rw [if_pos rfl]
              have : (T.setIfInBounds t u).getD t undef = u := by
                rw [Array.getD_eq_getD_getElem?, Array.getElem?_setIfInBounds, if_pos rfl, if_pos (by omega)]; rfl
              rw [this]
              exact ha 0 u rfl
            · rw [if_neg e]
              have hne : p ≠ t := fun q => by subst q; rw [hi] at hj; cases hj; exact e rfl
              have : (T.setIfInBounds p u).getD t undef = T.getD t undef := by
                rw [Array.getD_eq_getD_getElem?, Array.getD_eq_getD_getElem?, Array.getElem?_setIfInBounds, if_neg hne]
              rw [this]
              exact hf t j hj
      · rw [hi] at h1; exact aa hR h1
theorem zo (ps : Array Nat) (args : Array Value) (T : Array Value) : (ps.zip args).foldl (fun tmps (t, a) => tmps.setIfInBounds t a) T = kr T (ps.toList.zip args.toList) := by
  rw [← Array.foldl_toList, Array.toList_zip]; rfl
theorem jo {V : Env} {μ : Mu} {F : Nat → Prop} {h : Hp} {w : World} (H : au V μ F h w) {b s f i : Nat} {fr : Fr} {m : Mp} (hB : h.at b = .loop s f i fr) (hpr : b ∉ h.pr) (hm : μ b = some m) :
    ∃ L, w.heap[m.aF]? = some (.loop L) ∧ gY V.P w F μ V.vars s f i fr L ∧ ∀ {h' : Hp} {st : Nat} {L' : Loop}, br h b (.loop st f i fr) h' → gY V.P w F μ V.vars st f i fr L' → au V μ F h' { w with heap := w.heap.setIfInBounds m.aF (.loop L') } ∧ Ext μ F h w μ F h' { w with heap := w.heap.setIfInBounds m.aF (.loop L') } := by
  have hb := H.aF b
  rw [hB] at hb
  obtain ⟨m', L, h1, h2, h3, h4⟩ := hb
  rw [hm] at h1
  cases h1
  refine ⟨L, h2, h4, fun {h' st L'} hs hL => ?_⟩
  have hlt := (H.et b m hm).2
  have hk : ∀ X, X ≠ m.aF → (w.heap.setIfInBounds m.aF (.loop L'))[X]? = w.heap[X]? := fun X hX => by
    rw [Array.getElem?_setIfInBounds, if_neg (Ne.symm hX)]
  refine H.set (w' := { w with heap := w.heap.setIfInBounds m.aF (.loop L') }) (by rw [hB]; exact trivial) hpr hm (by simp) hk hs ⟨m, L', hm, ?_, h3, hL.mono (fun B hB => hk B fun e => h3 (e ▸ hB)) (fun _ h => h) (fun _ _ h => h)⟩
  show (w.heap.setIfInBounds m.aF (.loop L'))[m.aF]? = _
  rw [Array.getElem?_setIfInBounds, if_pos rfl, if_pos hlt]
theorem eF {P : Program} {w : World} {l : Nat} {L : Loop} (h : w.heap[l]? = some (.loop L)) : (Instr.getLoop l).run P w = .ok L w := by
  simp [Instr.getLoop, getObj, Sem.run, h]
theorem pD {P : Program} {w : World} {l : Nat} {L : Loop} {j : Option Code} (h : w.heap[l]? = some (.loop L)) : (Instr.endRound l j).run P w = .ok (.bool j.isNone) { w with heap := w.heap.setIfInBounds l (.loop { L with state := if j.isNone then .ready else .done, pending := j }) } := by
  simp [Instr.endRound, eF h, setObj, Sem.run, h]
theorem mN {P : Program} {w : World} {l : Nat} {L : Loop} (h : w.heap[l]? = some (.loop L)) (hs : L.state = .ready) : (Instr.beginRound l).run P w = .ok () { w with heap := w.heap.setIfInBounds l (.loop { L with state := .busy }) } := by
  simp [Instr.beginRound, eF h, setObj, Sem.run, h, hs]
theorem vM {M : Mem} (ok : aT M) {R : ab} (hR : R ≠ .fail) {b rb st : Nat} {pr : List Nat} {v : Bool} {h : Hp} {k : AV → Hp → ab} (g : n3 M b pr rb st v h k = R) : ∃ f i fr h', h.at b = .loop 1 f i fr ∧ br h b (.loop st f i fr) h' ∧ k (.bool v) ⟨h'.t, h'.nx, pr, rb⟩ = R := by
  have g1 := bu ok hR g
  obtain ⟨s, f, i, fr, hB, g2⟩ := fD hR g1
  obtain ⟨hs, g3⟩ := ah hR g2
  rw [an] at hs
  subst hs
  obtain ⟨h', hset, _, g4⟩ := bw ok hR g3
  exact ⟨f, i, fr, h', hB, hset, by cases h'; exact g4⟩
theorem a3t {C : Cx} {i : Nat} : nw C i = fQ ∨ ∃ fn c ps a b, C.P.funcs[C.self]? = some fn ∧ fn.body = some c ∧ cf i c = some (ps, a, b) ∧ bn a = [] ∧ bn b = [] ∧ (nw C i).f = (fun fr l hp => a3a C ps l fr fun fr => ((den C a).run .e (fun _ => jv) [] aP).run .lf fr hp) ∧ (nw C i).g = fun fr hp => ((den C b).run .e (fun _ => jv) (dS (a0R c)) ku).run .lf fr hp := by
  unfold nw
  split
  · exact .inl rfl
  · rename_i fn hfn
    rw [c8, Array.getElem?_toList] at hfn
    split
    · exact .inl rfl
    · rename_i c hc
      split
      · exact .inl rfl
      · rename_i ps a b hrf
        cases hb : az (nj a) (nj b) with
        | false => exact .inl rfl
        | true =>
          obtain ⟨h1, h2⟩ := (aB _ _).mp hb
          exact .inr ⟨fn, c, ps, a, b, hfn, hc, hrf, gH h1, gH h2, rfl, rfl⟩
end Go.Proofs.YtdlohaedegmiaaaGreatDoor.Ev
