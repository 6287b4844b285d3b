import Derived.Test.YtbamejikafhenaaDoorEvAK
import Derived.RangeFuncIn
namespace Go.Proofs.YtbamejikafhenaaDoor.Ev
structure dN (w : World) (F : Nat → Prop) (μ : Mu) (w' : World) (F' : Nat → Prop) (μ' : Mu) (v v' : AV) : Prop where
  val : ∀ u, ao w F μ v u → ao w' F' μ' v' u
  elem : ∀ i u, ao w F μ (elc v i) u → ao w' F' μ' (elc v' i) u
theorem a9y {v : AV} (h : ∀ l n, v ≠ .agg l n) (i : Nat) : elc v i = .uu := by
  cases v with
  | agg l n => exact absurd rfl (h l n)
  | _ => rfl
theorem dN.mono {w w' w2 : World} {F F' F2 : Nat → Prop} {μ μ' μ2 : Mu} {v v' : AV} (h : dN w F μ w' F' μ' v v') (hw : ∀ B, F' B → w2.heap[B]? = w'.heap[B]?) (hF : ∀ B, F' B → F2 B) (hm : ∀ b m, μ' b = some m → μ2 b = some m) : dN w F μ w2 F2 μ2 v v' :=
  ⟨fun u hu => (h.val u hu).mono hw hF hm, fun i u hu => (h.elem i u hu).mono hw hF hm⟩
theorem dN.pre {w w1 w' : World} {F F1 F' : Nat → Prop} {μ μ1 μ' : Mu} {v v' : AV} (h : dN w1 F1 μ1 w' F' μ' v v') (hw : ∀ B, F B → w1.heap[B]? = w.heap[B]?) (hF : ∀ B, F B → F1 B) (hm : ∀ b m, μ b = some m → μ1 b = some m) : dN w F μ w' F' μ' v v' :=
  ⟨fun u hu => h.val u (hu.mono hw hF hm), fun i u hu => h.elem i u (hu.mono hw hF hm)⟩
theorem dN.plain {w w' : World} {F F' : Nat → Prop} {μ μ' : Mu} {v v' : AV} (hn : ∀ l n, v' ≠ .agg l n) (h : ∀ u, ao w F μ v u → ao w' F' μ' v' u) : dN w F μ w' F' μ' v v' :=
  ⟨h, fun i u _ => by rw [a9y hn]; exact .uu u⟩
theorem dN.agg {w w' : World} {F F' : Nat → Prop} {μ μ' : Mu} {l r : Row} {n : Nat} (h : ∀ i u, ao w F μ (nth l i) u → ao w' F' μ' (nth r i) u) : dN w F μ w' F' μ' (.agg l n) (.agg r n) :=
  ⟨fun u hu => by
    cases hu with
    | agg us h1 h2 h3 h4 => exact .agg us h1 h2 h3 fun i hi => h i _ (h4 i hi), h⟩
theorem dN.bB {w w' : World} {F F' : Nat → Prop} {μ μ' : Mu} {l r : Row} {n : Nat} (hl : len r = len l) (h : ∀ i u, ao w F μ (nth l i) u → ao w' F' μ' (nth r i) u) : dN w F μ w' F' μ' (.bB l n) (.bB r n) :=
  .plain (fun _ _ => by simp) fun u hu => by
    cases hu with
    | bB us h1 h2 h3 => exact .bB us (hl.trans h1) h2 fun i hi => h i _ (h3 i hi)
theorem dN.fn {w w' : World} {F F' : Nat → Prop} {μ μ' : Mu} {l r : Row} {f n m : Nat} (hl : len r = len l) (h : ∀ i u, ao w F μ (nth l i) u → ao w' F' μ' (nth r i) u) : dN w F μ w' F' μ' (.x 3 l f n m) (.x 3 r f n m) :=
  .plain (fun _ _ => by simp) fun u hu => by
    cases hu with
    | fn us h1 h2 h3 h4 h5 h6 => exact .fn us h1 h2 (hl.trans h3) h4 h5 fun i hi => h i _ (h6 i hi)
theorem dN.iface {w w' : World} {F F' : Nat → Prop} {μ μ' : Mu} {l r : Row} {a b c : Nat} (h : ∀ i u, ao w F μ (nth l i) u → ao w' F' μ' (nth r i) u) : dN w F μ w' F' μ' (.x 12 l a b c) (.x 12 r a b c) :=
  .plain (fun _ _ => by simp) fun u hu => by
    cases hu with
    | iface h1 => exact .iface (h 0 _ h1)
theorem dN.free {w : World} {F : Nat → Prop} {μ μ' : Mu} {v : AV} (h : v.cM = true) (hn : ∀ l n, v ≠ .agg l n) : dN w F μ w F μ' v v := .plain hn fun _ hu => hu.free h μ'
theorem uP {l : Row} (h : ∀ i, i < len l → (nth l i).jg = true) (i : Nat) : (nth l i).cM = true := by
  by_cases hi : i < len l
  · exact fx (h i hi)
  · rw [yv (by omega)]; rfl
def ZOk (V : Env) (z : ZK) : Prop := ∀ (hp : Hp) (v : AV) (k : AV → Hp → aa) (R : aa), R ≠ .fail → z.f hp v k = R → ∃ v' hp', k v' hp' = R ∧ ∀ (w : World) (F : Nat → Prop) (μ : Mu), aP V μ F hp w → ∃ F', aP V μ F' hp' w ∧ Ext μ F hp w μ F' hp' w ∧ dN w F μ w F' dQ v v'
section
variable {V : Env} {M : Mem} (ok : cW M)
theorem a4N {z : ZK} (hz : ZOk V z) {R : aa} (hR : R ≠ .fail) : ∀ {l : Row} {hp : Hp} {k : Row → Hp → aa}, zl z l hp k = R → ∃ r hp', k r hp' = R ∧ len r = len l ∧ ∀ (w : World) (F : Nat → Prop) (μ : Mu), aP V μ F hp w → ∃ F', aP V μ F' hp' w ∧ Ext μ F hp w μ F' hp' w ∧ ∀ i u, ao w F μ (nth l i) u → ao w F' dQ (nth r i) u
  | .lf, hp, k, h => ⟨.lf, hp, h, rfl, fun w F μ H => ⟨F, H, Ext.refl _ _ _ _, fun i u _ => by cases i <;> exact .uu u⟩⟩
  | .nd v a l, hp, k, h => by
    obtain ⟨v', h1, g1, H1⟩ := hz hp v (fun v hp => zl z l hp fun r hp => k (.nd v .lf r) hp) R hR h
    obtain ⟨r, h2, g2, hl, H2⟩ := a4N hz hR g1
    refine ⟨_, h2, g2, congrArg (· + 1) hl, fun w F μ H => ?_⟩
    obtain ⟨F1, q1, q2, q3⟩ := H1 w F μ H
    obtain ⟨F2, p1, p2, p3⟩ := H2 w F1 μ q1
    refine ⟨F2, p1, q2.trans p2, fun i u hu => ?_⟩
    cases i with
    | zero => exact (q3.val u hu).mono (fun _ _ => rfl) p2.fr (fun _ _ h => h)
    | succ i => exact p3 i u (hu.mono (fun _ _ => rfl) q2.fr (fun _ _ h => h))
include ok
theorem aiO {z : ZK} (hz : ZOk V z) {R : aa} (hR : R ≠ .fail) (n : Nat) : ∀ {hp : Hp} {t : Row} {o : Nat} {d : Row} {p : Nat} {k : Row → Hp → aa}, (zr M z n).f hp t o d p k = R → ∃ d' hp', k d' hp' = R ∧ (∀ j, ¬ (p ≤ j ∧ j < p + n) → d'.at j = d.at j) ∧
    ∀ (w : World) (F : Nat → Prop) (μ : Mu), aP V μ F hp w → ∃ F', aP V μ F' hp' w ∧ Ext μ F hp w μ F' hp' w ∧ ∀ j, j < n → dN w F μ w F' dQ (t.at (o + j)) (d'.at (p + j)) := by
  induction n with
  | zero => intro hp t o d p k h; exact ⟨d, hp, h, fun _ _ => rfl, fun w F μ H => ⟨F, H, Ext.refl _ _ _ _, fun j hj => absurd hj (Nat.not_lt_zero _)⟩⟩
  | succ n ih =>
    intro hp t o d p k h
    have g1 := ok.rg hR (show M.rg.f t o (fun a => z.f hp a fun a hp => M.rs.f d p a fun d => (zr M z n).f hp t (Nat.succ o) d (Nat.succ p) k) = R from h)
    obtain ⟨a', h1, g2, H1⟩ := hz hp (t.at o) (fun a hp => M.rs.f d p a fun d => (zr M z n).f hp t (Nat.succ o) d (Nat.succ p) k) R hR g1
    obtain ⟨d1, hd1, g3⟩ := ok.rs hR g2
    have hd1 : ∀ j, d1.at j = if j = p then a' else d.at j := fun j => hd1 j
    obtain ⟨d', h2, g4, hd, H2⟩ := ih g3
    refine ⟨d', h2, g4, fun j hj => ?_, fun w F μ H => ?_⟩
    · rw [hd j (by omega), hd1, if_neg (by omega)]
    · obtain ⟨F1, q1, q2, q3⟩ := H1 w F μ H
      obtain ⟨F2, p1, p2, p3⟩ := H2 w F1 μ q1
      refine ⟨F2, p1, q2.trans p2, fun j hj => ?_⟩
      cases j with
      | zero =>
        have e : d'.at (p + 0) = a' := by rw [hd (p + 0) (by omega), hd1, if_pos (Nat.add_zero p)]
        rw [e]
        exact q3.mono (fun _ _ => rfl) p2.fr (fun _ _ h => h)
      | succ j =>
        have := p3 j (by omega)
        rw [show Nat.succ o + j = o + (j + 1) by omega, show Nat.succ p + j = p + (j + 1) by omega] at this
        exact this.pre (fun _ _ => rfl) q2.fr (fun _ _ h => h)
theorem aer {z : ZK} (hz : ZOk V z) : ZOk V (frzS M z) := by
  intro hp v k R hR h
  have same : ∀ {v : AV}, v.cM = true → (∀ l n, v ≠ .agg l n) → k v hp = R → ∃ v' hp', k v' hp' = R ∧ ∀ (w : World) (F : Nat → Prop) (μ : Mu), aP V μ F hp w → ∃ F', aP V μ F' hp' w ∧ Ext μ F hp w μ F' hp' w ∧ dN w F μ w F' dQ v v' := fun {v} hf hn g =>
    ⟨v, hp, g, fun w F μ H => ⟨F, H, Ext.refl _ _ _ _, dN.free hf hn⟩⟩
  have lists : ∀ {l : Row} {q : Row → AV}, (∀ {w : World} {F F' : Nat → Prop} {μ : Mu} {r : Row}, len r = len l → (∀ i u, ao w F μ (nth l i) u → ao w F' dQ (nth r i) u) → dN w F μ w F' dQ v (q r)) → zl z l hp (fun r hp => k (q r) hp) = R → ∃ v' hp', k v' hp' = R ∧ ∀ (w : World) (F : Nat → Prop) (μ : Mu), aP V μ F hp w → ∃ F', aP V μ F' hp' w ∧ Ext μ F hp w μ F' hp' w ∧ dN w F μ w F' dQ v v' := fun {l q} hq g => by
    obtain ⟨r, hp', g2, hl, H⟩ := a4N hz hR g
    exact ⟨_, hp', g2, fun w F μ h => let ⟨F', q1, q2, q3⟩ := H w F μ h; ⟨F', q1, q2, hq hl q3⟩⟩
  cases v with
  | int => exact same rfl (fun _ _ => by simp) h
  | bool => exact same rfl (fun _ _ => by simp) h
  | str => exact same rfl (fun _ _ => by simp) h
  | ptr => exact an hR h
  | ms b o n y =>
    obtain ⟨rw', fl, x, s, t, hB, hs, g1⟩ := mg ok hR (show hp.use M b (Nat.add o (Nat.mul n y)) (fun _ fl x s t => ar (Nat.beq x y) (ar (Nat.beq (Nat.mod o y) 0) (hp.put M b (.row false fl y s t) fun hp => when fl (aG (Nat.div o y) fun e => k (.vs t e n y) hp) ((zr M z n).f hp t (Nat.div o y) .lf 0 fun r hp => k (.vs r 0 n y) hp)))) = R from h)
    obtain ⟨hx, g2⟩ := ax hR g1
    rw [aF] at hx; subst hx
    obtain ⟨ho, g3⟩ := ax hR g2
    rw [aF] at ho
    have ho : o % x = 0 := ho
    have hs : o + n * x ≤ s := hs
    have hox : o / x * x = o := Nat.div_mul_cancel (Nat.dvd_of_mod_eq_zero ho)
    obtain ⟨h1, hset, _, g4⟩ := kJ ok hR g3
    have fin : ∀ {w : World} {F F' : Nat → Prop} {μ : Mu} {t' : Row} {e : Nat}, aP V μ F hp w → (∀ m, μ b = some m → F' m.c8) → (∀ i, i < n * x → ∀ u, ao w F μ (cellAt x t (o + i)) u → ao w F' dQ (cellAt x t' (e * x + i)) u) → dN w F μ w F' dQ (.ms b o n x) (.vs t' e n x) := fun {w F F' μ t' e} H hF hcell =>
      .plain (fun _ _ => by simp) fun u hu => by
        cases hu with
        | ms0 => exact .vs0
        | @ms _ _ _ _ _ c m hm hc hcs =>
          have hbr := H.c8 b
          rw [hB] at hbr
          obtain ⟨us, hus⟩ := mT (fun i (hi : i < n * x) => hbr.cells hm (o + i) (by omega))
          exact .vs us (hF m hm) hc (fun i hi => by have := (hus i hi).1; rw [← Nat.add_assoc] at this; exact this) (fun i hi => (hus i hi).2.1) fun i hi => hcell i hi _ (hus i hi).2.2
    have place : ∀ {w : World} {F : Nat → Prop} {μ : Mu}, aP V μ F hp w → ∃ m, μ b = some m := fun H => (ofRow H hB).1
    rcases aM hR g4 with ⟨hfl, g5⟩ | ⟨_, g5⟩
    · rw [az] at g5
      refine ⟨_, h1, g5, fun w F μ H => ?_⟩
      obtain ⟨m, hm⟩ := place H
      obtain ⟨q1, q2⟩ := H.mark hB hm (fun h => h) hset
      refine ⟨_, q1, q2, fin H (fun m' hm' => by rw [hm] at hm'; cases hm'; exact .inr rfl) fun i hi u hu => ?_⟩
      have hfree := (ofRow H hB).2 hfl (o + i) (by omega)
      have e : Nat.div o x * x + i = o + i := by show o / x * x + i = _; rw [hox]
      rw [e]
      exact (hu.free hfree dQ).mono (fun _ _ => rfl) (fun _ h => .inl h) (fun _ _ h => h)
    · obtain ⟨d', h2, g6, _, H2⟩ := aiO ok hz hR n g5
      refine ⟨_, h2, g6, fun w F μ H => ?_⟩
      obtain ⟨m, hm⟩ := place H
      obtain ⟨q1, q2⟩ := H.mark hB hm (fun h => h) hset
      obtain ⟨F2, p1, p2, p3⟩ := H2 w _ μ q1
      refine ⟨F2, p1, q2.trans p2, fin H (fun m' hm' => by rw [hm] at hm'; cases hm'; exact p2.fr _ (.inr rfl)) fun i hi u hu => ?_⟩
      have hx0 : 0 < x := Nat.pos_of_ne_zero fun e => by subst e; omega
      have hu' : ao w (fun B => F B ∨ B = m.c8) μ (cellAt x t (o + i)) u := hu.mono (fun _ _ => rfl) (fun _ h => .inl h) (fun _ _ h => h)
      rw [Nat.zero_mul, Nat.zero_add]
      have hlt : i / x < n := (Nat.div_lt_iff_lt_mul hx0).2 hi
      have hp3 := p3 (i / x) hlt
      rw [Nat.zero_add] at hp3
      by_cases e1 : x = 1
      · subst e1
        rw [cellAt, if_pos rfl] at hu' ⊢
        rw [Nat.div_one] at hp3
        have e : Nat.div o 1 + i = o + i := by show o / 1 + i = _; rw [Nat.div_one]
        rw [e] at hp3
        exact hp3.val u hu'
      · rw [cellAt, if_neg e1] at hu' ⊢
        have e2 : (o + i) / x = Nat.div o x + i / x := by
          show _ = o / x + i / x
          rw [← hox, Nat.mul_comm, Nat.mul_add_div hx0, Nat.mul_div_cancel_left _ hx0]
        have e3 : (o + i) % x = i % x := by rw [← hox, Nat.mul_comm, Nat.mul_add_mod]
        rw [e2, e3] at hu'
        exact hp3.elem _ u hu'
  | vs t o n z' => exact ⟨_, hp, h, fun w F μ H => ⟨F, H, Ext.refl _ _ _ _, .plain (fun _ _ => by simp) fun u hu => by
      cases hu with
      | vs us hF hc h1 h2 h3 => exact .vs us hF hc h1 h2 h3
      | vs0 => exact .vs0⟩⟩
  | agg l n =>
    obtain ⟨p, hp1, g1⟩ := kX (show eM l (fun p => when p (k (.agg l n) hp) (zl z l hp fun r hp => k (.agg r n) hp)) = R from h)
    rcases aM hR g1 with ⟨e, g2⟩ | ⟨_, g2⟩
    · exact ⟨_, hp, g2, fun w F μ H => ⟨F, H, Ext.refl _ _ _ _, .agg fun i u hu => hu.free (uP (hp1 e) i) dQ⟩⟩
    · exact lists (q := fun r => .agg r n) (fun _ h => .agg h) g2
  | bB t n => exact lists (q := fun r => .bB r n) (fun hl h => .bB hl h) h
  | x gg t a b c =>
    have h' : when (Nat.ble 6 gg) (when (Nat.beq gg 12) (zl z t hp fun r hp => k (.x gg r a b c) hp) (k (.x gg t a b c) hp)) (when (Nat.beq gg 1) (k (.x gg t a b c) hp) (ar (Nat.beq gg 3) (zl z t hp fun r hp => k (.x gg r a b c) hp))) = R := h
    rcases aM hR h' with ⟨e6, g1⟩ | ⟨_, g1⟩
    · rw [bA] at e6
      rcases aM hR g1 with ⟨e, g2⟩ | ⟨e, g2⟩
      · rw [aF] at e; subst e
        exact lists (q := fun r => .x 12 r a b c) (fun _ h => .iface h) g2
      · have hne : gg ≠ 12 := fun q => by rw [q] at e; cases e
        refine ⟨_, hp, g2, fun w F μ H => ⟨F, H, Ext.refl _ _ _ _, .plain (fun _ _ => by simp) fun u hu => ?_⟩⟩
        cases hu with
        | iface => exact absurd rfl hne
        | emp => exact .emp
        | vZ => exact .vZ
        | qK => exact .qK
        | yA => exact .yA
        | wK => exact .wK
        | xT => exact .xT
        | uu => omega
        | pO => omega
        | fn => omega
        | map => omega
        | yld => omega
    · rcases aM hR g1 with ⟨e, g2⟩ | ⟨_, g2⟩
      · rw [aF] at e; subst e
        refine ⟨_, hp, g2, fun w F μ H => ⟨F, H, Ext.refl _ _ _ _, .plain (fun _ _ => by simp) fun u hu => ?_⟩⟩
        cases hu with
        | pO us hF hu h1 h2 => exact .pO us hF hu h1 h2
      · obtain ⟨e, g3⟩ := ax hR g2
        rw [aF] at e; subst e
        exact lists (q := fun r => .x 3 r a b c) (fun hl h => .fn hl h) g3
theorem ahU (n : Nat) : ZOk V (pN M n) := by
  induction n with
  | zero => exact fun _ _ _ _ hR h => an hR h
  | succ n ih => exact aer ok ih
end
theorem ao.ab3 {w : World} {F : Nat → Prop} {μ : Mu} {a : AV} {v : Value} (h : ao w F μ a v) (hf : a.cM = true) (w' : World) (F' : Nat → Prop) (μ' : Mu) : ao w' F' μ' a v := by
  cases h with
  | int h => exact .int h
  | bool b => exact .bool b
  | str => exact .str
  | uu v => exact .uu v
  | vZ => exact .vZ
  | qK => exact .qK
  | yA => exact .yA
  | wK => exact .wK
  | xT => exact .xT
  | emp => exact .emp
  | _ => exact Bool.noConfusion hf
structure qs where
  w : World
  μc : Mu
  Fc : Nat → Prop
  Ft : Nat → Prop
  hc : Hp
  hp : Hp
  μ : Mu
  s : Nat
  full : Prop
structure mv (V : Env) (E : qs) : Prop where
  hc : aP V E.μc E.Fc E.hc E.w
  new : ∀ c m, E.μc c = some m → E.s ≤ m.c8
  hp : aP V E.μ E.Ft E.hp E.w
  old : ∀ b m, E.μ b = some m → m.c8 < E.s
  ft : ∀ c m, E.μc c = some m → ¬ E.Fc m.c8 → ¬ E.Ft m.c8
  full : E.full → ∀ B, E.Fc B → E.Ft B
structure oI (V : Env) (E : qs) (hc hp : Hp) (μ : Mu) : Prop where
  a : aP V μ E.Ft hp E.w
  b : ∀ b, b < E.hp.nx → hp.at b = E.hp.at b ∧ μ b = E.μ b
  c : ∀ b, E.hp.nx ≤ b → μ b = none ∨ ∃ c, hc.at c = .fwd b ∧ μ b = E.μc c ∧ ((hp.at b).wr → (E.hc.at c).wr)
  d : ∀ c, hc.at c = E.hc.at c ∨ ∃ id m, hc.at c = .fwd id ∧ E.μc c = some m ∧ μ id = some m ∧ E.hp.nx ≤ id
  nx : E.hp.nx ≤ hp.nx
  pr : hp.pr = E.hp.pr
  rb : hp.rb = E.hp.rb
def Le (μ μ' : Mu) : Prop := ∀ b m, μ b = some m → μ' b = some m
theorem aP.adopt {V : Env} {μ : Mu} {F : Nat → Prop} {h h' : Hp} {w : World} (H : aP V μ F h w) {id : Nat} {B : bX} {m : Mp} (hid : μ id = none) (s : fq h id B h') (hn : id < h'.nx) (hm : m.c8 < w.heap.size) (hB : kT V w F (dS μ id m) id B) (hx : B.wr → ∀ b m', (h.at b).wr → μ b = some m' → m'.c8 ≠ m.c8) : aP V (dS μ id m) F h' w := by
  have le := iD m hid
  refine ⟨fun b => ?_, fun b b' x x' h1 h2 hne hx1 hx2 => ?_, fun b x hx => ?_, H.qt, H.ve⟩
  · by_cases e : b = id
    · subst e; rw [s.same]; exact hB
    · rw [s.ne e]
      have hb := H.c8 b
      refine hb.dC (fun _ _ => rfl) (fun _ h => h) le (fun _ _ => rfl) (fun _ _ _ h => h)
  · by_cases e : b = id
    · subst e
      rw [s.same] at h1
      rw [bS] at hx1; cases hx1
      have e2 : b' ≠ b := Ne.symm hne
      rw [s.ne e2] at h2
      rw [dX μ m e2] at hx2
      exact (hx h1 b' x' h2 hx2).symm
    · rw [s.ne e] at h1
      rw [dX μ m e] at hx1
      by_cases e2 : b' = id
      · subst e2
        rw [s.same] at h2
        rw [bS] at hx2; cases hx2
        exact hx h2 b x h1 hx1
      · rw [s.ne e2] at h2
        rw [dX μ m e2] at hx2
        exact H.kr b b' x x' h1 h2 hne hx1 hx2
  · by_cases e : b = id
    · subst e; rw [bS] at hx; cases hx; exact ⟨hn, hm⟩
    · rw [dX μ m e] at hx
      obtain ⟨q1, q2⟩ := H.nM b x hx
      exact ⟨Nat.lt_of_lt_of_le q1 s.nx, q2⟩
def IOk (V : Env) (z : IK) : Prop := ∀ (v : AV) (hc hp : Hp) (b : Bool) (k : AV → Hp → Hp → Bool → aa) (R : aa), R ≠ .fail → z.f v hc hp b k = R → ∃ v' hc' hp' b', k v' hc' hp' b' = R ∧ (b = true → b' = true) ∧
  ∀ (E : qs), mv V E → (b' = false ∨ E.full) → ∀ μ, oI V E hc hp μ → ∃ μ', oI V E hc' hp' μ' ∧ Le μ μ' ∧ dN E.w E.Fc E.μc E.w E.Ft μ' v v'
section
variable {V : Env} {M : Mem} (ok : cW M)
theorem adt {b b' : Bool} {p : Prop} (h : b = true → b' = true) (h' : b' = false ∨ p) : b = false ∨ p := h'.elim (fun e => .inl (by cases b with | false => rfl | true => rw [h rfl] at e; cases e)) .inr
theorem abE {z : IK} (hz : IOk V z) {R : aa} (hR : R ≠ .fail) : ∀ {l : Row} {hc hp : Hp} {b : Bool} {k : Row → Hp → Hp → Bool → aa}, il z l hc hp b k = R → ∃ r hc' hp' b', k r hc' hp' b' = R ∧ (b = true → b' = true) ∧ len r = len l ∧
    ∀ (E : qs), mv V E → (b' = false ∨ E.full) → ∀ μ, oI V E hc hp μ → ∃ μ', oI V E hc' hp' μ' ∧ Le μ μ' ∧ ∀ i u, ao E.w E.Fc E.μc (nth l i) u → ao E.w E.Ft μ' (nth r i) u
  | .lf, hc, hp, b, k, h => ⟨.lf, hc, hp, b, h, id, rfl, fun E _ _ μ J => ⟨μ, J, fun _ _ h => h, fun i u _ => by cases i <;> exact .uu u⟩⟩
  | .nd v a l, hc, hp, b, k, h => by
    obtain ⟨v', hc1, hp1, b1, g1, hb1, H1⟩ := hz v hc hp b (fun v hc hp b => il z l hc hp b fun r hc hp b => k (.nd v .lf r) hc hp b) R hR h
    obtain ⟨r, hc2, hp2, b2, g2, hb2, hl, H2⟩ := abE hz hR g1
    refine ⟨_, hc2, hp2, b2, g2, fun e => hb2 (hb1 e), congrArg (· + 1) hl, fun E ho hor μ J => ?_⟩
    obtain ⟨μ1, J1, l1, s1⟩ := H1 E ho (adt hb2 hor) μ J
    obtain ⟨μ2, J2, l2, s2⟩ := H2 E ho hor μ1 J1
    refine ⟨μ2, J2, fun x m hx => l2 x m (l1 x m hx), fun i u hu => ?_⟩
    cases i with
    | zero => exact (s1.val u hu).mono (fun _ _ => rfl) (fun _ h => h) l2
    | succ i => exact s2 i u hu
include ok
theorem abf {z : IK} (hz : IOk V z) {R : aa} (hR : R ≠ .fail) (n : Nat) : ∀ {t : Row} {o : Nat} {d : Row} {p : Nat} {hc hp : Hp} {b : Bool} {k : Row → Hp → Hp → Bool → aa}, (ir M z n).f t o d p hc hp b k = R → ∃ d' hc' hp' b', k d' hc' hp' b' = R ∧ (b = true → b' = true) ∧ (∀ j, ¬ (p ≤ j ∧ j < p + n) → d'.at j = d.at j) ∧
    ∀ (E : qs), mv V E → (b' = false ∨ E.full) → ∀ μ, oI V E hc hp μ → ∃ μ', oI V E hc' hp' μ' ∧ Le μ μ' ∧ ∀ j, j < n → dN E.w E.Fc E.μc E.w E.Ft μ' (t.at (o + j)) (d'.at (p + j)) := by
  induction n with
  | zero => intro t o d p hc hp b k h; exact ⟨d, hc, hp, b, h, id, fun _ _ => rfl, fun E _ _ μ J => ⟨μ, J, fun _ _ h => h, fun j hj => absurd hj (Nat.not_lt_zero _)⟩⟩
  | succ n ih =>
    intro t o d p hc hp b k h
    have g1 := ok.rg hR (show M.rg.f t o (fun a => z.f a hc hp b fun a hc hp b => M.rs.f d p a fun d => (ir M z n).f t (Nat.succ o) d (Nat.succ p) hc hp b k) = R from h)
    obtain ⟨a', hc1, hp1, b1, g2, hb1, H1⟩ := hz (t.at o) hc hp b (fun a hc hp b => M.rs.f d p a fun d => (ir M z n).f t (Nat.succ o) d (Nat.succ p) hc hp b k) R hR g1
    obtain ⟨d1, hd1, g3⟩ := ok.rs hR g2
    have hd1 : ∀ j, d1.at j = if j = p then a' else d.at j := fun j => hd1 j
    obtain ⟨d', hc2, hp2, b2, g4, hb2, hd, H2⟩ := ih g3
    refine ⟨d', hc2, hp2, b2, g4, fun e => hb2 (hb1 e), fun j hj => ?_, fun E ho hor μ J => ?_⟩
    · rw [hd j (by omega), hd1, if_neg (by omega)]
    · obtain ⟨μ1, J1, l1, s1⟩ := H1 E ho (adt hb2 hor) μ J
      obtain ⟨μ2, J2, l2, s2⟩ := H2 E ho hor μ1 J1
      refine ⟨μ2, J2, fun x m hx => l2 x m (l1 x m hx), fun j hj => ?_⟩
      cases j with
      | zero =>
        have e : d'.at (p + 0) = a' := by rw [hd (p + 0) (by omega), hd1, if_pos (Nat.add_zero p)]
        rw [e]
        exact s1.mono (fun _ _ => rfl) (fun _ h => h) l2
      | succ j =>
        have := s2 j (by omega)
        rw [show Nat.succ o + j = o + (j + 1) by omega, show Nat.succ p + j = p + (j + 1) by omega] at this
        exact this
omit ok in
theorem a5P {w w' : World} {F F' : Nat → Prop} {μ μ' : Mu} {y n : Nat} {t r : Row} (h : ∀ j, j < n → dN w F μ w' F' μ' (t.at j) (r.at j)) {i : Nat} (hi : i < n * y) {u : Value} (hu : ao w F μ (cellAt y t i) u) : ao w' F' μ' (cellAt y r i) u := by
  have hy : 0 < y := Nat.pos_of_ne_zero fun e => by subst e; omega
  have hlt : i / y < n := (Nat.div_lt_iff_lt_mul hy).2 hi
  have hp3 := h (i / y) hlt
  by_cases e1 : y = 1
  · subst e1
    rw [cellAt, if_pos rfl] at hu ⊢
    rw [Nat.div_one] at hp3
    exact hp3.val u hu
  · rw [cellAt, if_neg e1] at hu ⊢
    exact hp3.elem _ u hu
theorem sU {R : aa} (hR : R ≠ .fail) {c : Nat} {hc hp : Hp} {X : bX} {k : Nat → Hp → Hp → aa} (h : (hc.put M c (.fwd hp.nx) fun hc => (aY M).f hp X fun id hp => k id hc hp) = R) :
    ∃ hc' hp', k hp.nx hc' hp' = R ∧ fq hc c (.fwd hp.nx) hc' ∧ fq hp hp.nx X hp' ∧ hp.nx < hp'.nx := by
  obtain ⟨hc', hs, _, g1⟩ := kJ ok hR h
  obtain ⟨hp', g2, hs2, hn⟩ := a1S ok hR rfl rfl g1
  exact ⟨hc', hp', g2, hs, hs2, hn⟩
omit ok in
theorem tI {c : Nat} {hc hp hc' hp' : Hp} {B X : bX} (hs : fq hc c (.fwd hp.nx) hc') (hs2 : fq hp hp.nx X hp') (hn : hp.nx < hp'.nx) (hBw : B ≠ .dead ∧ ∀ i, B ≠ .fwd i) (hXw : X.wr → B.wr) {E : qs} (ho : mv V E) {μ : Mu} (J : oI V E hc hp μ) (hcB : hc.at c = B)
    (hBX : ∀ m, E.μc c = some m → E.hc.at c = B → μ hp.nx = none → kT V E.w E.Ft (dS μ hp.nx m) hp.nx X) : ∃ μ', oI V E hc' hp' μ' ∧ Le μ μ' ∧ ∀ m, E.μc c = some m → μ' hp.nx = some m := by
  have hcE : E.hc.at c = B := by
    rcases J.d c with e | ⟨id, m, e, _⟩
    · rw [← e]; exact hcB
    · rw [hcB] at e; exact absurd e (hBw.2 id)
  have hng : ¬ (E.hc.at c).gone := by
    rw [hcE]
    intro hg
    cases B with
    | dead => exact hBw.1 rfl
    | _ => exact hg.elim
  obtain ⟨m, hm⟩ := (ho.hc.c8 c).some hng
  have hid : μ hp.nx = none := ti J.a
  refine ⟨dS μ hp.nx m, ⟨J.a.adopt hid hs2 hn (ho.hc.nM c m hm).2 (hBX m hm hcE hid) (fun hw b m' hb hm' => ?_), fun b hb => ?_, fun b hb => ?_, fun c' => ?_, Nat.le_trans J.nx hs2.nx, hs2.pr.trans J.pr, hs2.rb.trans J.rb⟩, iD m hid, fun m' hm' => by rw [hm] at hm'; cases hm'; exact bS _ _ _⟩
  · by_cases hlt : b < E.hp.nx
    · rw [(J.b b hlt).2] at hm'
      have h1 := ho.old b m' hm'
      have h2 := ho.new c m hm
      intro e; rw [e] at h1; omega
    · rcases J.c b (by omega) with e | ⟨c', e1, e2, e3⟩
      · rw [e] at hm'; cases hm'
      · have hne : c' ≠ c := fun e => by rw [e, hcB] at e1; exact hBw.2 b e1
        rw [e2] at hm'
        exact ho.hc.kr c' c m' m (e3 hb) (by rw [hcE]; exact hXw hw) hne hm' hm
  · have hne : b ≠ hp.nx := by have := J.nx; omega
    rw [hs2.ne hne, dX μ m hne]
    exact J.b b hb
  · by_cases e : b = hp.nx
    · subst e
      refine .inr ⟨c, hs.same, by rw [bS, hm], fun hw => ?_⟩
      rw [hs2.same] at hw
      rw [hcE]; exact hXw hw
    · rw [dX μ m e, hs2.ne e]
      rcases J.c b hb with h | ⟨c', e1, e2, e3⟩
      · exact .inl h
      · have hne : c' ≠ c := fun e => by rw [e, hcB] at e1; exact hBw.2 b e1
        exact .inr ⟨c', by rw [hs.ne hne]; exact e1, e2, e3⟩
  · by_cases e : c' = c
    · subst e
      exact .inr ⟨hp.nx, m, hs.same, hm, bS _ _ _, J.nx⟩
    · rw [hs.ne e]
      rcases J.d c' with h | ⟨id, m', h1, h2, h3, h4⟩
      · exact .inl h
      · exact .inr ⟨id, m', h1, h2, iD m hid _ _ h3, h4⟩
theorem a5m {z : IK} (hz : IOk V z) {R : aa} (hR : R ≠ .fail) {c : Nat} {hc hp : Hp} {b : Bool} {k : Nat → Hp → Hp → Bool → aa} (h : ib M z c hc hp b k = R) : ∃ id hc' hp' b', k id hc' hp' b' = R ∧ (b = true → b' = true) ∧
    ∀ (E : qs), mv V E → (b' = false ∨ E.full) → ∀ μ, oI V E hc hp μ → ∃ μ', oI V E hc' hp' μ' ∧ Le μ μ' ∧ ∀ m, E.μc c = some m → μ' id = some m := by
  have g := iu ok hR h
  have flag : ∀ (rw b : Bool), (b = true → (Bool.rec (motive := fun _ => Bool) true b rw : Bool) = true) ∧ ((Bool.rec (motive := fun _ => Bool) true b rw : Bool) = false → rw = true ∧ b = false) := fun rw b => by cases rw <;> cases b <;> simp
  have row : ∀ {E : qs} {rw fl fl' : Bool} {y s s' : Nat} {t r : Row} {μ : Mu} {id : Nat} {m : Mp}, mv V E → (E.full ∨ rw = true) → E.μc c = some m → E.hc.at c = .row rw fl y s t → s' ≤ s → (∀ i, i < s' → ∀ u, ao E.w E.Fc E.μc (cellAt y t i) u → ao E.w E.Ft (dS μ id m) (cellAt y r i) u) → (fl' = true → ∀ i, i < s' → (cellAt y r i).cM = true) → kT V E.w E.Ft (dS μ id m) id (.row rw fl' y s' r) := by
    intro E rw fl fl' y s s' t r μ id m ho hor hm hE hss hcell hfree
    have hb := ho.hc.c8 c
    rw [hE] at hb
    obtain ⟨m', cs, T, fz, p1, p2, p3, p4, p5, p6, p7⟩ := hb
    rw [hm] at p1; cases p1
    refine ⟨m, cs, T, fz, bS _ _ _, p2, p3, fun i hi => ?_, hfree, fun e => ⟨(p6 e).1, ho.ft c m hm (p6 e).2⟩, fun e => ?_⟩
    · obtain ⟨u, u1, u2, u3⟩ := p4 i (by omega)
      exact ⟨u, u1, u2, hcell i hi u u3⟩
    · rcases hor with q | q
      · exact ho.full q _ (p7 e)
      · rw [e] at q; cases q
  cases hB : hc.at c with
  | dead => rw [hB] at g; exact an hR g
  | loop => rw [hB] at g; exact an hR g
  | fwd id =>
    rw [hB] at g
    refine ⟨id, hc, hp, b, g, fun h => h, fun E ho _ μ J => ⟨μ, J, fun _ _ h => h, fun m hm => ?_⟩⟩
    rcases J.d c with e | ⟨id', m', e, h2, h3, _⟩
    · have := ho.hc.c8 c
      rw [← e, hB] at this; exact this.elim
    · rw [hB] at e; cases e
      rw [hm] at h2; cases h2
      exact h3
  | row rw fl y s t =>
    rw [hB] at g
    rcases aM hR (show when fl (hc.put M c (.fwd hp.nx) fun hc => (aY M).f hp (.row rw fl y s t) fun id hp => k id hc hp (Bool.rec (motive := fun _ => Bool) true b rw))
      ((ir M z (Nat.div s y)).f t 0 .lf 0 hc hp b fun r hc hp b => hc.get M c fun B2 => B2.lO fun _ _ _ _ _ => aG (Nat.mul (Nat.div s y) y) fun s => hc.put M c (.fwd hp.nx) fun hc => (aY M).f hp (.row rw false y s r) fun id hp => k id hc hp (Bool.rec (motive := fun _ => Bool) true b rw)) = R from g) with ⟨hfl, g1⟩ | ⟨_, g1⟩
    · obtain ⟨hc', hp', g2, hs1, hs2, hn⟩ := sU ok hR (k := fun id hc hp => k id hc hp (Bool.rec (motive := fun _ => Bool) true b rw)) g1
      refine ⟨_, hc', hp', _, g2, (flag rw b).1, fun E ho hor μ J => tI hs1 hs2 hn (B := .row rw fl y s t) ⟨by simp, by simp⟩ (fun h => h) ho J hB fun m hm hE _ => row ho (by
        rcases hor with q | q
        · exact .inr ((flag rw b).2 q).1
        · exact .inl q) hm hE (Nat.le_refl s) (fun i hi u hu => ?_) (fun _ i hi => ?_)⟩
      · have hb := ho.hc.c8 c
        rw [hE] at hb
        obtain ⟨_, _, _, _, _, _, _, _, p5, _⟩ := hb
        exact hu.ab3 (p5 hfl i hi) _ _ _
      · have hb := ho.hc.c8 c
        rw [hE] at hb
        obtain ⟨_, _, _, _, _, _, _, _, p5, _⟩ := hb
        exact p5 hfl i hi
    · obtain ⟨r, hc1, hp1, b1, g2, hb1, _, H1⟩ := abf ok hz hR _ g1
      have g3 := iu ok hR g2
      obtain ⟨rw2, fl2, y2, s2, t2, hB2, g4⟩ := sX hR g3
      rw [az] at g4
      obtain ⟨hc', hp', g5, hs1, hs2, hn⟩ := sU ok hR (k := fun id hc hp => k id hc hp (Bool.rec (motive := fun _ => Bool) true b1 rw)) g4
      refine ⟨_, hc', hp', _, g5, fun e => (flag rw b1).1 (hb1 e), fun E ho hor μ J => ?_⟩
      obtain ⟨μ1, J1, l1, s1⟩ := H1 E ho (adt (flag rw b1).1 hor) μ J
      have hE0 : E.hc.at c = .row rw fl y s t := by
        rcases J.d c with e | ⟨id, m, e, _⟩
        · rw [← e]; exact hB
        · rw [hB] at e; cases e
      have hB3 : hc1.at c = .row rw fl y s t := by
        rcases J1.d c with e | ⟨id, m, e, _⟩
        · rw [e]; exact hE0
        · rw [hB2] at e; cases e
      obtain ⟨μ2, J2, l2, p2⟩ := tI hs1 hs2 hn (B := .row rw fl y s t) ⟨by simp, by simp⟩ (fun h => h) ho J1 hB3 fun m hm hE hid => row ho (by
        rcases hor with q | q
        · exact .inr ((flag rw b1).2 q).1
        · exact .inl q) hm hE (Nat.div_mul_le_self s y) (fun i hi u hu => by
          have := a5P (y := y) (n := s / y) (t := t) (r := r) (fun j hj => by
            have := s1 j hj
            rw [Nat.zero_add] at this; exact this) hi hu
          exact this.mono (fun _ _ => rfl) (fun _ h => h) (iD m hid)) (fun e => Bool.noConfusion e)
      exact ⟨μ2, J2, fun x m hx => l2 x m (l1 x m hx), p2⟩
  | map n t =>
    rw [hB] at g
    obtain ⟨r, hc1, hp1, b1, g2, hb1, _, H1⟩ := abf ok hz hR _ (show (ir M z (Nat.mul 2 n)).f t 0 .lf 0 hc hp b (fun r hc hp b => hc.get M c fun B2 => B2.q8 fun _ _ => hc.put M c (.fwd hp.nx) fun hc => (aY M).f hp (.map n r) fun id hp => k id hc hp b) = R from g)
    have g3 := iu ok hR g2
    obtain ⟨n2, t2, hB2, g4⟩ := tY hR g3
    obtain ⟨hc', hp', g5, hs1, hs2, hn⟩ := sU ok hR (k := fun id hc hp => k id hc hp b1) g4
    refine ⟨_, hc', hp', _, g5, hb1, fun E ho hor μ J => ?_⟩
    obtain ⟨μ1, J1, l1, s1⟩ := H1 E ho hor μ J
    have hE0 : E.hc.at c = .map n t := by
      rcases J.d c with e | ⟨id, m, e, _⟩
      · rw [← e]; exact hB
      · rw [hB] at e; cases e
    have hB3 : hc1.at c = .map n t := by
      rcases J1.d c with e | ⟨id, m, e, _⟩
      · rw [e]; exact hE0
      · rw [hB2] at e; cases e
    obtain ⟨μ2, J2, l2, p2⟩ := tI hs1 hs2 hn (B := .map n t) ⟨by simp, by simp⟩ (fun h => h) ho J1 hB3 fun m hm hE hid => by
      have hb := ho.hc.c8 c
      rw [hE] at hb
      obtain ⟨m', es, clk, p1, p2, p3, p4, p5⟩ := hb
      rw [hm] at p1; cases p1
      refine ⟨m, es, clk, bS _ _ _, p2, ho.ft c m hm p3, p4, fun i hi => ?_⟩
      obtain ⟨en, e1, e2, e3⟩ := p5 i hi
      have q1 := s1 (2 * i) (by show 2 * i < 2 * n; omega)
      have q2 := s1 (2 * i + 1) (by show 2 * i + 1 < 2 * n; omega)
      rw [Nat.zero_add] at q1 q2
      exact ⟨en, e1, (q1.val _ e2).mono (fun _ _ => rfl) (fun _ h => h) (iD m hid), (q2.val _ e3).mono (fun _ _ => rfl) (fun _ h => h) (iD m hid)⟩
    exact ⟨μ2, J2, fun x m hx => l2 x m (l1 x m hx), p2⟩
theorem aet {z : IK} (hz : IOk V z) : IOk V (impS M z) := by
  intro v hc hp b k R hR h
  have same : ∀ {v : AV}, v.cM = true → (∀ l n, v ≠ .agg l n) → k v hc hp b = R → ∃ v' hc' hp' b', k v' hc' hp' b' = R ∧ (b = true → b' = true) ∧ ∀ (E : qs), mv V E → (b' = false ∨ E.full) → ∀ μ, oI V E hc hp μ → ∃ μ', oI V E hc' hp' μ' ∧ Le μ μ' ∧ dN E.w E.Fc E.μc E.w E.Ft μ' v v' := fun {v} hf hn g =>
    ⟨v, hc, hp, b, g, fun h => h, fun E _ _ μ J => ⟨μ, J, fun _ _ h => h, .plain hn fun u hu => hu.ab3 hf _ _ _⟩⟩
  have lists : ∀ {l : Row} {q : Row → AV}, (∀ {w w' : World} {F F' : Nat → Prop} {μ μ' : Mu} {r : Row}, len r = len l → (∀ i u, ao w F μ (nth l i) u → ao w' F' μ' (nth r i) u) → dN w F μ w' F' μ' v (q r)) → il z l hc hp b (fun r hc hp b => k (q r) hc hp b) = R → ∃ v' hc' hp' b', k v' hc' hp' b' = R ∧ (b = true → b' = true) ∧ ∀ (E : qs), mv V E → (b' = false ∨ E.full) → ∀ μ, oI V E hc hp μ → ∃ μ', oI V E hc' hp' μ' ∧ Le μ μ' ∧ dN E.w E.Fc E.μc E.w E.Ft μ' v v' := fun {l q} hq g => by
    obtain ⟨r, hc', hp', b', g2, hb, hl, H⟩ := abE hz hR g
    exact ⟨_, hc', hp', b', g2, hb, fun E ho hor μ J => let ⟨μ', q1, q2, q3⟩ := H E ho hor μ J; ⟨μ', q1, q2, hq hl q3⟩⟩
  have fixed : ∀ {v : AV}, (∀ l n, v ≠ .agg l n) → (∀ (E : qs), mv V E → E.full → ∀ (μ : Mu) u, ao E.w E.Fc E.μc v u → ao E.w E.Ft μ v u) → k v hc hp true = R → ∃ v' hc' hp' b', k v' hc' hp' b' = R ∧ (b = true → b' = true) ∧ ∀ (E : qs), mv V E → (b' = false ∨ E.full) → ∀ μ, oI V E hc hp μ → ∃ μ', oI V E hc' hp' μ' ∧ Le μ μ' ∧ dN E.w E.Fc E.μc E.w E.Ft μ' v v' := fun {v} hn hv g =>
    ⟨v, hc, hp, true, g, fun _ => rfl, fun E ho hor μ J => ⟨μ, J, fun _ _ h => h, .plain hn fun u hu => hv E ho (hor.resolve_left (by simp)) μ u hu⟩⟩
  cases v with
  | int => exact same rfl (fun _ _ => by simp) h
  | bool => exact same rfl (fun _ _ => by simp) h
  | str => exact same rfl (fun _ _ => by simp) h
  | ptr c o =>
    obtain ⟨id, hc', hp', b', g, hb, H⟩ := a5m ok hz hR (show ib M z c hc hp b (fun id hc hp b => k (.ptr id o) hc hp b) = R from h)
    refine ⟨_, hc', hp', b', g, hb, fun E ho hor μ J => ?_⟩
    obtain ⟨μ', q1, q2, q3⟩ := H E ho hor μ J
    exact ⟨μ', q1, q2, .plain (fun _ _ => by simp) fun u hu => by
      cases hu with
      | ptr h => exact .ptr (q3 _ h)⟩
  | ms c o n y =>
    obtain ⟨id, hc', hp', b', g, hb, H⟩ := a5m ok hz hR (show ib M z c hc hp b (fun id hc hp b => k (.ms id o n y) hc hp b) = R from h)
    refine ⟨_, hc', hp', b', g, hb, fun E ho hor μ J => ?_⟩
    obtain ⟨μ', q1, q2, q3⟩ := H E ho hor μ J
    exact ⟨μ', q1, q2, .plain (fun _ _ => by simp) fun u hu => by
      cases hu with
      | ms h h1 h2 => exact .ms (q3 _ h) h1 h2
      | ms0 => exact .ms0⟩
  | vs t o n y => exact fixed (fun _ _ => by simp) (fun E ho hf μ u hu => by
      cases hu with
      | vs us h1 h2 h3 h4 h5 => exact .vs us (ho.full hf _ h1) h2 h3 h4 fun i hi => (h5 i hi).mono (fun _ _ => rfl) (ho.full hf) (fun _ _ h => h)
      | vs0 => exact .vs0) h
  | agg l n =>
    obtain ⟨p, hp1, g1⟩ := kX (show eM l (fun p => when p (k (.agg l n) hc hp b) (il z l hc hp b fun r hc hp b => k (.agg r n) hc hp b)) = R from h)
    rcases aM hR g1 with ⟨e, g2⟩ | ⟨_, g2⟩
    · exact ⟨_, hc, hp, b, g2, fun h => h, fun E _ _ μ J => ⟨μ, J, fun _ _ h => h, .agg fun i u hu => hu.ab3 (uP (hp1 e) i) _ _ _⟩⟩
    · exact lists (q := fun r => .agg r n) (fun _ h => .agg h) g2
  | bB t n => exact lists (q := fun r => .bB r n) (fun hl h => .bB hl h) h
  | x gg t a p c =>
    have h' : when (Nat.ble 6 gg) (when (Nat.beq gg 12) (il z t hc hp b fun r hc hp b => k (.x gg r a p c) hc hp b) (k (.x gg t a p c) hc hp b))
      (when (Nat.beq gg 1) (k (.x gg t a p c) hc hp true) (when (Nat.beq gg 3) (il z t hc hp b fun r hc hp b => k (.x gg r a p c) hc hp b) (ar (Nat.beq gg 4) (ib M z a hc hp b fun id hc hp b => k (.x 4 .lf id p c) hc hp b)))) = R := h
    rcases aM hR h' with ⟨e6, g1⟩ | ⟨_, g1⟩
    · rw [bA] at e6
      rcases aM hR g1 with ⟨e, g2⟩ | ⟨e, g2⟩
      · rw [aF] at e; subst e
        exact lists (q := fun r => .x 12 r a p c) (fun _ h => .iface h) g2
      · have hne : gg ≠ 12 := fun q => by rw [q] at e; cases e
        refine ⟨_, hc, hp, b, g2, fun h => h, fun E _ _ μ J => ⟨μ, J, fun _ _ h => h, .plain (fun _ _ => by simp) fun u hu => ?_⟩⟩
        cases hu with
        | iface => exact absurd rfl hne
        | emp => exact .emp
        | vZ => exact .vZ
        | qK => exact .qK
        | yA => exact .yA
        | wK => exact .wK
        | xT => exact .xT
        | uu => omega
        | pO => omega
        | fn => omega
        | map => omega
        | yld => omega
    · rcases aM hR g1 with ⟨e, g2⟩ | ⟨_, g2⟩
      · rw [aF] at e; subst e
        exact fixed (fun _ _ => by simp) (fun E ho hf μ u hu => by
          cases hu with
          | pO us h1 h3 h4 h5 => exact .pO us (ho.full hf _ h1) h3 h4 fun i hi => (h5 i hi).mono (fun _ _ => rfl) (ho.full hf) (fun _ _ h => h)) g2
      · rcases aM hR g2 with ⟨e, g3⟩ | ⟨_, g3⟩
        · rw [aF] at e; subst e
          exact lists (q := fun r => .x 3 r a p c) (fun hl h => .fn hl h) g3
        · obtain ⟨e, g4⟩ := ax hR g3
          rw [aF] at e; subst e
          obtain ⟨id, hc', hp', b', g, hb, H⟩ := a5m ok hz hR g4
          refine ⟨_, hc', hp', b', g, hb, fun E ho hor μ J => ?_⟩
          obtain ⟨μ', q1, q2, q3⟩ := H E ho hor μ J
          exact ⟨μ', q1, q2, .plain (fun _ _ => by simp) fun u hu => by
            cases hu with
            | map h => exact .map (q3 _ h)⟩
theorem acb (n : Nat) : IOk V (imp M n) := by
  induction n with
  | zero => exact fun _ _ _ _ _ _ hR h => an hR h
  | succ n ih => exact aet ok ih
end
theorem so {μ : Mu} {B : Nat} : ¬ WB .empty μ B := fun ⟨b, m, h, _⟩ => by
  have : Hp.empty.at b = .dead := qg _ _
  rw [this] at h; exact h
theorem aP.grow {V : Env} {μ : Mu} {F F' : Nat → Prop} {h : Hp} {w w' : World} (H : aP V μ F h w) (hs : w.heap.size ≤ w'.heap.size) (hk : ∀ B, B < w.heap.size → w'.heap[B]? = w.heap[B]?) (hF : ∀ B, F B → F' B) (hn : ∀ B, F' B → F B ∨ w.heap.size ≤ B) (hi : ∀ B, F' B → B < w'.heap.size) : aP V μ F' h w' :=
  ⟨fun b => (H.c8 b).dC (fun B hB => hk B (H.qt B hB)) hF (fun _ _ h => h) (fun m hm => hk _ (H.nM b m hm).2) (fun m hm _ hnF hF' => (hn _ hF').elim hnF fun h => by have := (H.nM b m hm).2; omega), H.kr, fun b m hm => let ⟨q1, q2⟩ := H.nM b m hm; ⟨q1, Nat.lt_of_lt_of_le q2 hs⟩, hi, H.ve.mono (fun B hB => hk B (H.qt B hB)) hF⟩
theorem a7S {V : Env} {E : qs} {μ : Mu} {Fa : Nat → Prop} {w : World} {hc' hp' : Hp} (hs : E.s = w.heap.size) (H : aP V E.μ Fa E.hp w) (ho : mv V E) (J : oI V E hc' hp' μ) (hsize : w.heap.size ≤ E.w.heap.size) (hk : ∀ B, B < w.heap.size → E.w.heap[B]? = w.heap[B]?) (hF : ∀ B, Fa B → E.Ft B) (hn : ∀ B, E.Ft B → Fa B ∨ w.heap.size ≤ B) (hio : fU w E.w) :
    Ext E.μ Fa E.hp w μ E.Ft hp' E.w ∧ ∀ b, μ b ≠ none → E.μ b ≠ none ∨ E.hp.nx ≤ b := by
  have new : ∀ b m, E.hp.nx ≤ b → μ b = some m → w.heap.size ≤ m.c8 := fun b m hb hm => by
    rcases J.c b hb with e | ⟨c, _, e, _⟩
    · rw [e] at hm; cases hm
    · rw [e] at hm; rw [← hs]; exact ho.new c m hm
  refine ⟨⟨fun b m hm => ?_, hF, hsize, fun B hB _ => hk B hB, fun B ⟨b, m, h1, h2, h3, h4⟩ => ?_, fun B ⟨b, m, h1, h3, h4⟩ => ?_, fun B hB => (hn B hB).imp (fun h => h) .inl, fun b m hm => ?_, J.nx, J.pr, J.rb, hio⟩, fun b hb => ?_⟩
  · rw [(J.b b (H.nM b m hm).1).2]; exact hm
  · by_cases e : b < E.hp.nx
    · obtain ⟨q1, q2⟩ := J.b b e
      exact .inr ⟨b, m, q1 ▸ h1, J.pr ▸ h2, q2 ▸ h3, h4⟩
    · exact .inl (h4 ▸ new b m (by omega) h3)
  · by_cases e : b < E.hp.nx
    · obtain ⟨q1, q2⟩ := J.b b e
      exact .inr ⟨b, m, q1 ▸ h1, q2 ▸ h3, h4⟩
    · exact .inl (h4 ▸ new b m (by omega) h3)
  · by_cases e : b < E.hp.nx
    · exact .inl ((J.b b e).2 ▸ hm)
    · refine .inr ⟨?_, .inl (new b m (by omega) hm)⟩
      cases hx : E.μ b with
      | none => rfl
      | some m' => exact absurd (H.nM b m' hx).1 e
  · by_cases e : b < E.hp.nx
    · exact .inl ((J.b b e).2 ▸ hb)
    · exact .inr (by omega)
def rv (V : Env) (f : FuncId) (a : Row) (hp : Hp) (v : AV) (hp' : Hp) : Prop := ∀ (w : World) (μ : Mu) (F : Nat → Prop) (args : Array Value) (n : Nat), aP V μ F hp w → qJ w F μ a args →
  CallsIn (Wf none) n V.P f args w fun e w' => ∃ x, e = .returned x ∧ ∃ μ' F', ao w' F' μ' v x ∧ (∀ b, μ' b ≠ none → μ b ≠ none ∨ hp.nx ≤ b) ∧ aP V μ' F' hp' w' ∧ Ext μ F hp w μ' F' hp' w'
section
variable {V : Env} {M : Mem} (ok : cW M) {R : aa} (hR : R ≠ .fail) {f : FuncId} {G : bN} (hG : bn V f G)
include hR hG
theorem xr {a : Row} {hp : Hp} {k : AV → Hp → aa} (h : fe G a hp k = R) : Can V.P f ∧ ∃ v hp', k v hp' = R ∧ rv V f a hp v hp' := by
  cases hb : G.f a hp with
  | val v h1 =>
    have h' : Hp.rec (motive := fun _ => aa) (fun t nx _ _ => Hp.rec (motive := fun _ => aa) (fun _ _ pr rb => k v ⟨t, nx, pr, rb⟩) hp) h1 = R := by
      unfold fe at h
      rw [hb] at h; exact h
    obtain ⟨hcan, v', hp', e, H⟩ := hG a hp _ hb (by simp)
    injection e with ev eh
    subst ev; subst eh
    refine ⟨hcan, v, ⟨h1.t, h1.nx, hp.pr, hp.rb⟩, h', fun w μ F args n hH ha => (H w μ F args n hH ha).mono fun e w' ⟨x, e1, μ', F', hv1, h2, h3⟩ => ⟨x, e1, μ', F', hv1, h3.ids, ⟨h2.c8, h2.kr, h2.nM, h2.qt, h2.ve⟩, ?_⟩⟩
    have E := h3.ext
    have hpr : h1.pr = hp.pr := E.pr
    exact ⟨E.mu, E.fr, E.size, E.dC, fun B ⟨b, m, o1, o2, o3, o4⟩ => E.own B ⟨b, m, o1, fun hm => o2 (show b ∈ hp.pr from hpr ▸ hm), o3, o4⟩, E.wb, E.tA, E.pd, E.nx, rfl, rfl, E.io⟩
  | _ => unfold fe at h; rw [hb] at h; exact an hR h
include ok
theorem a8P {a0 a : Row} {hp ho : Hp} {k : AV → Hp → aa} (hfr : ∀ (w : World) (F : Nat → Prop) (μ : Mu), aP V μ F hp w → ∃ F', aP V μ F' ho w ∧ Ext μ F hp w μ F' ho w ∧ ∀ i u, ao w F μ (nth a0 i) u → ao w F' dQ (nth a i) u) (hlen : len a = len a0) (h : eX M G a hp ho k = R) : Can V.P f ∧ ∃ v hp', k v hp' = R ∧ rv V f a0 hp v hp' := by
  cases hb : G.f a .empty with
  | val v hc =>
    have h' : (imp M 24).f v hc hp false (fun v' _ hp' b => when b ((imp M 24).f v hc ho false fun v _ hp _ => k v hp) (k v' hp')) = R := by
      unfold eX at h
      rw [hb] at h; exact h
    obtain ⟨hcan, v0, hc0, e, H⟩ := hG a .empty _ hb (by simp)
    injection e with ev eh
    subst ev; subst eh
    have call : ∀ (w : World) (μ : Mu) (F : Nat → Prop) (args : Array Value) (n : Nat), aP V μ F hp w → qJ w F μ a0 args → ∃ F1, aP V μ F1 ho w ∧ Ext μ F hp w μ F1 ho w ∧ CallsIn (Wf none) n V.P f args w fun e w' => ∃ x, e = .returned x ∧ ∃ μc Fc, ao w' Fc μc v x ∧ aP V μc Fc hc w' ∧ fU w w' ∧ w.heap.size ≤ w'.heap.size ∧ (∀ B, B < w.heap.size → w'.heap[B]? = w.heap[B]?) ∧ (∀ c m, μc c = some m → w.heap.size ≤ m.c8) ∧ (∀ B, F1 B → Fc B) ∧ ∀ B, Fc B → F1 B ∨ w.heap.size ≤ B := by
      intro w μ F args n hH ha
      obtain ⟨F1, q1, q2, q3⟩ := hfr w F μ hH
      refine ⟨F1, q1, q2, ?_⟩
      have he : ∀ b, Hp.empty.at b = .dead := fun b => qg _ _
      have H0 : aP V dQ F1 .empty w := ⟨fun b => by rw [he]; exact trivial, fun b _ _ _ h1 => by rw [he] at h1; exact h1.elim, fun b m hm => (by cases hm), q1.qt, q1.ve⟩
      refine (H w dQ F1 args n H0 ⟨hlen.trans ha.1, fun i u hu => q3 i u (ha.2 i u hu)⟩).mono fun e w' ⟨x, e1, μc, Fc, h1, h2, h3⟩ => ⟨x, e1, μc, Fc, h1, h2, h3.ext.io, h3.ext.size, fun B hB => h3.ext.dC B hB fun ho => so ho.wb, fun c m hm => ?_, h3.ext.fr, fun B hB => ?_⟩
      · rcases h3.ext.pd c m hm with e | ⟨_, e | e⟩
        · cases e
        · exact e
        · exact absurd e.wb so
      · rcases h3.ext.tA B hB with e | e | e
        · exact .inl e
        · exact .inr e
        · exact absurd e so
    obtain ⟨v', hc', hp', b', g1, _, HI⟩ := acb (V := V) ok 24 v hc hp false (fun v' _ hp' b => when b ((imp M 24).f v hc ho false fun v _ hp _ => k v hp) (k v' hp')) R hR h'
    refine ⟨hcan, ?_⟩
    rcases aM hR g1 with ⟨hb', g2⟩ | ⟨hb', g2⟩
    · obtain ⟨v2, hc2, hp2, b2, g3, _, HI2⟩ := acb (V := V) ok 24 v hc ho false (fun v _ hp _ => k v hp) R hR g2
      refine ⟨v2, hp2, g3, fun w μ F args n hH ha => ?_⟩
      obtain ⟨F1, q1, q2, q3⟩ := call w μ F args n hH ha
      refine q3.mono fun e w' ⟨x, e1, μc, Fc, h1, h2, hio, hsz, hk, hnew, hF1, hFc⟩ => ⟨x, e1, ?_⟩
      let E : qs := ⟨w', μc, Fc, Fc, hc, ho, μ, w.heap.size, True⟩
      have hoE : mv V E := ⟨h2, hnew, q1.grow hsz hk hF1 hFc h2.qt, fun b m hm => (q1.nM b m hm).2, fun _ _ _ h => h, fun _ _ h => h⟩
      obtain ⟨μ', J, hle, hs⟩ := HI2 E hoE (.inr trivial) μ ⟨hoE.hp, fun _ _ => ⟨rfl, rfl⟩, fun b hb => .inl (by
        cases hx : μ b with
        | none => rfl
        | some m => exact absurd (q1.nM b m hx).1 (Nat.not_lt.2 hb)), fun c => .inl rfl, Nat.le_refl _, rfl, rfl⟩
      obtain ⟨x1, x2⟩ := a7S (Fa := F1) (w := w) rfl q1 hoE J hsz hk hF1 hFc hio
      exact ⟨μ', Fc, hs.val x h1, fun b hb => (x2 b hb).imp (fun h => h) fun h => Nat.le_trans q2.nx h, J.a, q2.trans x1⟩
    · subst hb'
      refine ⟨v', hp', g2, fun w μ F args n hH ha => ?_⟩
      obtain ⟨F1, q1, q2, q3⟩ := call w μ F args n hH ha
      refine q3.mono fun e w' ⟨x, e1, μc, Fc, h1, h2, hio, hsz, hk, hnew, hF1, hFc⟩ => ⟨x, e1, ?_⟩
      let E : qs := ⟨w', μc, Fc, F, hc, hp, μ, w.heap.size, False⟩
      have hoE : mv V E := ⟨h2, hnew, hH.grow hsz hk (fun _ h => h) (fun _ h => .inl h) (fun B hB => Nat.lt_of_lt_of_le (hH.qt B hB) hsz), fun b m hm => (hH.nM b m hm).2, fun c m hm _ hF => by
        have z1 := hnew c m hm
        have z2 := hH.qt _ hF
        omega, fun h => h.elim⟩
      obtain ⟨μ', J, hle, hs⟩ := HI E hoE (.inl rfl) μ ⟨hoE.hp, fun _ _ => ⟨rfl, rfl⟩, fun b hb => .inl (by
        cases hx : μ b with
        | none => rfl
        | some m => exact absurd (hH.nM b m hx).1 (Nat.not_lt.2 hb)), fun c => .inl rfl, Nat.le_refl _, rfl, rfl⟩
      obtain ⟨x1, x2⟩ := a7S (Fa := F) (w := w) rfl hH hoE J hsz hk (fun _ h => h) (fun _ h => .inl h) hio
      exact ⟨μ', F, hs.val x h1, x2, J.a, x1⟩
  | _ => unfold eX at h; rw [hb] at h; exact an hR h
theorem a0u {sh : Bool} {a : Row} {hp : Hp} {k : AV → Hp → aa} (h : au M sh G a hp k = R) : Can V.P f ∧ ∃ v hp', k v hp' = R ∧ rv V f a hp v hp' := by
  cases sh with
  | true => exact xr hR hG h
  | false =>
    have h' : aa.rec (motive := fun _ => aa) (fun _ _ => fe G a hp k) (fun _ _ _ => fe G a hp k) (fun _ _ => fe G a hp k) (fun v h => v.wx fun r _ => eX M G r hp h k) (fe G a hp k) (zl (pN M 24) a hp fun r h => .val (.bB r 0) h) = R := h
    cases hz : zl (pN M 24) a hp fun r h => .val (.bB r 0) h with
    | val v ho =>
      obtain ⟨r, hp', e, hl, H⟩ := a4N (ahU (V := V) ok 24) (R := .val v ho) (by simp) hz
      cases e
      rw [hz] at h'
      exact a8P ok hR hG H hl h'
    | _ => rw [hz] at h'; exact xr hR hG h'
end
theorem a6Z {C : Cx} {V : Env} (h : ∀ p ∈ C.fn, bn V p.1 p.2) (f : Nat) : bn V f (a3J C f) := by
  unfold a3J
  revert h
  generalize C.fn = l
  induction l with
  | nil => exact fun _ l hp R h hR => an hR h
  | cons p l ih =>
    intro h
    show bn V f (Bool.rec (motive := fun _ => bN) (List.rec (motive := fun _ => bN) pL (fun a _ ih => Bool.rec (motive := fun _ => bN) ih a.2 (Nat.beq a.1 f)) l) p.2 (Nat.beq p.1 f))
    rw [eF]
    by_cases e : p.1 = f
    · rw [if_pos (by rw [aF]; exact e), ← e]; exact h p (List.mem_cons_self ..)
    · rw [if_neg (by rw [aF]; exact e)]; exact ih fun q hq => h q (List.mem_cons_of_mem _ hq)
theorem a7X {R : aa} {b : Row} : ∀ {a : Row} {k : Row → aa}, app a b k = R → ∃ r, k r = R ∧ len r = len a + len b ∧ ∀ i, nth r i = if i < len a then nth a i else nth b (i - len a)
  | .lf, k, h => ⟨b, h, by show _ = 0 + _; omega, fun i => by show nth b i = if i < 0 then _ else nth b (i - 0); rw [if_neg (Nat.not_lt_zero _)]; rfl⟩
  | .nd v x a, k, h => by
    obtain ⟨r, h1, h2, h3⟩ := a7X (a := a) (k := fun r => k (.nd v .lf r)) h
    refine ⟨_, h1, by show len r + 1 = len a + 1 + len b; omega, fun i => ?_⟩
    cases i with
    | zero => exact (if_pos (show 0 < len a + 1 from Nat.succ_pos _)).symm
    | succ i =>
      show nth r i = if i + 1 < len a + 1 then nth a i else nth b (i + 1 - (len a + 1))
      rw [h3 i]
      by_cases e : i < len a
      · rw [if_pos e, if_pos (by omega)]
      · rw [if_neg e, if_neg (by omega)]; congr 1; omega
theorem xp {R : aa} (hR : R ≠ .fail) {b : Row} : ∀ {n : Nat} {a : Row} {k : Row → aa}, wg n a b k = R → ∃ r, k r = R ∧ n ≤ len a ∧ len r = len a + len b ∧ ∀ i, nth r i = if i < n then nth a i else if i < n + len b then nth b (i - n) else nth a (i - len b)
  | 0, a, k, h => by
    obtain ⟨r, h1, h2, h3⟩ := a7X (show app b a k = R from h)
    refine ⟨r, h1, Nat.zero_le _, by omega, fun i => ?_⟩
    rw [h3 i, if_neg (Nat.not_lt_zero _)]
    simp only [Nat.zero_add, Nat.sub_zero]
  | n + 1, a, k, h => by
    cases a with
    | lf => exact an hR h
    | nd v x a =>
      obtain ⟨r, h1, h2, h3, h4⟩ := xp hR (n := n) (a := a) (k := fun r => k (.nd v .lf r)) h
      refine ⟨_, h1, Nat.succ_le_succ h2, by show len r + 1 = len a + 1 + len b; omega, fun i => ?_⟩
      cases i with
      | zero => rw [if_pos (Nat.succ_pos _)]; rfl
      | succ i =>
        show nth r i = if i + 1 < n + 1 then nth a i else if i + 1 < n + 1 + len b then nth b (i + 1 - (n + 1)) else nth (.nd v x a) (i + 1 - len b)
        rw [h4 i]
        by_cases e : i < n
        · rw [if_pos e, if_pos (show i + 1 < n + 1 by omega)]
        · rw [if_neg e, if_neg (show ¬ i + 1 < n + 1 by omega)]
          by_cases e2 : i < n + len b
          · rw [if_pos e2, if_pos (show i + 1 < n + 1 + len b by omega)]; congr 1; omega
          · rw [if_neg e2, if_neg (show ¬ i + 1 < n + 1 + len b by omega)]
            have : i + 1 - len b = (i - len b) + 1 := by omega
            rw [this]; rfl
theorem rC {P : Program} {f : FuncId} (h : Can P f) (args : Array Value) (w : World) : (callFunc f args).run P w = .ok (.enter f args) w := by
  obtain ⟨fn, h1, h2, h3⟩ := h
  have n1 : ¬ fn.name = "runtime.NumGoroutine" := by simpa using h3
  have b1 : ¬ fn.body = none := fun e => by rw [e] at h2; cases h2
  simp [callFunc, h1, n1, b1]
def a73 (V : Env) (b : Nat) (l : Row) (hp : Hp) (v : AV) (hp' : Hp) : Prop := ∀ (w : World) (μ : Mu) (F : Nat → Prop) (m : Mp) (args : Array Value) (r : Option Nat) (n : Nat), aP V μ F hp w → μ b = some m → qJ w F μ l args →
  ∃ f tmps a c, (Instr.yield m.c8 args).run V.P w = .ok (.round m.c8 f tmps a c) w ∧ RoundIn (Wf r) n V.P m.c8 f tmps a c w fun e w' => ∃ x, e = .returned x ∧ ∃ μ' F', ao w' F' μ' v x ∧ (∀ b, μ' b ≠ none → μ b ≠ none ∨ hp.nx ≤ b) ∧ aP V μ' F' hp' w' ∧ Ext μ F hp w μ' F' hp' w'
def Yields (C : Cx) (V : Env) : Prop := ∀ (b : Nat) (l : Row) (hp : Hp) (k : AV → Hp → aa) (R : aa), R ≠ .fail → aaB C b l hp k = R → ∃ v hp', k v hp' = R ∧ a73 V b l hp v hp'
theorem a6q {r : Option Nat} {n : Nat} {P : Program} {f : FuncId} {args : Array Value} {w : World} {Q : Ending → World → Prop} (h : CallsIn (Wf none) n P f args w Q) : CallsIn (Wf r) n P f args w Q := h
section
variable {V : Env} {O : Operand → AV} {o : Oper} {id : Nat} {hp hp' : Hp} {v : AV}
theorem a4C {f : Operand} {as : Array Operand} {ts : Array TypeId} (hop : o.op = .call ⟨.value f, as, ts⟩) {fid : FuncId} {l : Row} (hcan : Can V.P fid) (hd : rv V fid l hp v hp')
    (hargs : ∀ {w : World} {F : Nat → Prop} {μ : Mu} {ρ : Operand → Value}, qw w F μ O o.op.operands.toList ρ → ∃ fs cs, ρ f = .func (.func fid) fs cs ∧ qJ w F μ l (fs ++ as.map ρ ++ cs)) : o8 V O o id hp v hp' 3 := by
  refine .other fun {w F μ a r n Q K} hO hid hH hK => ⟨fun _ _ => trivial, ?_⟩
  obtain ⟨fs, cs, hf, ha⟩ := hargs hO
  have hnd : ∀ c, o.op ≠ .defer c := fun c e => by rw [hop] at e; cases e
  have e : (execOp a.eval o).run V.P w = .ok (.enter fid (fs ++ as.map a.eval ++ cs)) w := by
    have e1 : execOp a.eval o = (do let d ← resolve a.eval ⟨.value f, as, ts⟩ o.type; invoke d.target d.args) := by simp only [execOp, hop]
    rw [e1]
    simp only [resolve, hf, Deferred.ofValue, Sem.run_bind, Sem.run_pure, invoke]
    exact rC hcan _ _
  rw [Oper.semAt_eq _ _ _ hnd, e]
  refine ⟨(fun h => by cases h), a6q ((hd w μ F _ (n - 1) hH ha).mono fun e w' ⟨x, e1, μ', F', h1, h2, h3, h4⟩ => ?_)⟩
  subst e1
  exact hK x w' μ' F' h1 (fun b hb => (h2 b hb).imp (fun h => h) .inr) h3 h4
theorem a9j {f : Operand} {as : Array Operand} {ts : Array TypeId} (hop : o.op = .call ⟨.value f, as, ts⟩) {b : Nat} {l : Row} (hd : a73 V b l hp v hp')
    (hargs : ∀ {w : World} {F : Nat → Prop} {μ : Mu} {ρ : Operand → Value}, qw w F μ O o.op.operands.toList ρ → ∃ m, μ b = some m ∧ ρ f = .func (.yield m.c8) #[] #[] ∧ qJ w F μ l (as.map ρ)) : o8 V O o id hp v hp' 3 := by
  refine .other fun {w F μ a r n Q K} hO hid hH hK => ⟨fun _ _ => trivial, ?_⟩
  obtain ⟨m, hm, hf, ha⟩ := hargs hO
  have hnd : ∀ c, o.op ≠ .defer c := fun c e => by rw [hop] at e; cases e
  obtain ⟨fn, tmps, x, y, hy, hr⟩ := hd w μ F m _ r (n - 1) hH hm ha
  have e : (execOp a.eval o).run V.P w = .ok (.round m.c8 fn tmps x y) w := by
    have e1 : execOp a.eval o = (do let d ← resolve a.eval ⟨.value f, as, ts⟩ o.type; invoke d.target d.args) := by simp only [execOp, hop]
    rw [e1]
    simp only [resolve, hf, Deferred.ofValue, Sem.run_bind, Sem.run_pure, invoke, Array.empty_append]
    exact hy
  rw [Oper.semAt_eq _ _ _ hnd, e]
  refine ⟨(fun h => by cases h), hr.mono fun e w' ⟨x, e1, μ', F', h1, h2, h3, h4⟩ => ?_⟩
  subst e1
  exact hK x w' μ' F' h1 (fun b hb => (h2 b hb).imp (fun h => h) .inr) h3 h4
end
theorem a5D {f : Operand} {as : Array Operand} {ts : Array TypeId} {o : Oper} (hop : o.op = .call ⟨.value f, as, ts⟩) : f ∈ o.op.operands.toList ∧ ∀ x ∈ as.toList, x ∈ o.op.operands.toList := by
  rw [hop]
  simp [Op.operands, Call.operands]
  exact fun x hx => .inr hx
theorem af9 {C : Cx} {vs : Vs} (ok : cW C.M) (hfn : ∀ p ∈ C.fn, bn (C.env vs) p.1 p.2) (hy : Yields C (C.env vs)) : mG C (C.env vs) := by
  intro g P k R sk fr hp id o f as ts hR hop h
  obtain ⟨hm, hms⟩ := a5D hop
  have hnd : ∀ c, o.op ≠ .defer c := fun c e => by rw [hop] at e; cases e
  have hcls : 3 ≤ cls C.P o.op := by rw [hop]; simp [cls]
  have argsL : ∀ {l : Row}, len l = as.toList.length → (∀ i x, as.toList[i]? = some x → nth l i = ov C g sk fr x) → ∀ {w : World} {F : Nat → Prop} {μ : Mu} {ρ : Operand → Value}, qw w F μ (ov C g sk fr) o.op.operands.toList ρ → qJ w F μ l (as.map ρ) := by
    intro l h1 h2 w F μ ρ hO
    refine ⟨by rw [h1]; simp, fun i u hu => ?_⟩
    rw [Array.getElem?_map] at hu
    cases hx : as[i]? with
    | none => rw [hx] at hu; cases hu
    | some x =>
      rw [hx] at hu
      cases hu
      have hx' : as.toList[i]? = some x := by rw [Array.getElem?_toList]; exact hx
      rw [h2 i x hx']
      exact hO x (hms x (List.mem_of_getElem? hx'))
  have other : (⟨fun sk fr hp => (jI C g f).get sk fr fun fv => fv.onX fun i u f n m => (ak (as.toList.map (jI C g))).f sk fr fun l => when (Nat.beq i 3) (wg n u l fun l => au C.M (aco C f) (a3J C f) l hp fun v hp => P.f k sk fr hp v)
      (ar (Nat.beq i 5) (aaB C f l hp fun v hp => P.f k sk fr hp v))⟩ : Sm).run sk fr hp = R → Out C (C.env vs) g P k sk fr o id hp R := by
    intro h
    have h1 := bP hR (k := fun fv => fv.onX fun i u f n m => (ak (as.toList.map (jI C g))).f sk fr fun l => when (Nat.beq i 3) (wg n u l fun l => au C.M (aco C f) (a3J C f) l hp fun v hp => P.f k sk fr hp v)
      (ar (Nat.beq i 5) (aaB C f l hp fun v hp => P.f k sk fr hp v))) h
    obtain ⟨i, u, fid, n, m, hfv, h2⟩ := a25 hR h1
    obtain ⟨l, h3, hl, hn⟩ := a5N hR h2
    rcases aM hR h3 with ⟨hi, h4⟩ | ⟨_, h4⟩
    · rw [aF] at hi
      subst hi
      obtain ⟨l2, h5, q1, q2, q3⟩ := xp hR h4
      obtain ⟨hcan, v, hp', h6, hd⟩ := a0u ok hR (a6Z hfn fid) h5
      refine ⟨v, hp', 3, h6, a4C hop hcan hd fun {w F μ ρ} hO => ?_, .inr (.inr (.inr ⟨rfl, hcls⟩)), hnd⟩
      have hc := hO f hm
      rw [hfv] at hc
      have hA := argsL hl hn hO
      generalize hρ : ρ f = vf at hc
      cases hc with
      | @fn _ _ _ _ _ fs cs us e1 e2 e3 hu hv hx =>
        refine ⟨fs, cs, rfl, ?_, fun j u' hj => ?_⟩
        · rw [q2, hA.1, e3]; simp only [Array.size_append]; omega
        · have hls : len l = (as.map ρ).size := hA.1
          rw [q3]
          by_cases c1 : j < n
          · rw [if_pos c1]
            rw [Array.append_assoc, Array.getElem?_append_left (by omega), hu j c1] at hj
            cases hj
            exact hx j (by omega)
          · rw [if_neg c1]
            by_cases c2 : j < n + len l
            · rw [if_pos c2]
              rw [Array.getElem?_append_left (by rw [Array.size_append]; omega), Array.getElem?_append_right (by omega), e1] at hj
              exact hA.2 _ _ hj
            · rw [if_neg c2]
              rw [Array.getElem?_append_right (by rw [Array.size_append]; omega), Array.size_append, e1, ← hls] at hj
              have hjm : j - (n + len l) < m := by
                rcases Nat.lt_or_ge (j - (n + len l)) m with q | q
                · exact q
                · rw [Array.getElem?_eq_none (by omega)] at hj; cases hj
              rw [hv _ hjm] at hj
              cases hj
              have hix : j - len l = n + (j - (n + len l)) := by omega
              rw [hix]
              exact hx _ (by omega)
    · obtain ⟨hi, h5⟩ := ax hR h4
      rw [aF] at hi
      subst hi
      obtain ⟨v, hp', h6, hd⟩ := hy _ _ _ _ _ hR h5
      refine ⟨v, hp', 3, h6, a9j hop hd fun {w F μ ρ} hO => ?_, .inr (.inr (.inr ⟨rfl, hcls⟩)), hnd⟩
      have hc := hO f hm
      rw [hfv] at hc
      generalize hρ : ρ f = vf at hc
      cases hc with
      | yld hb => exact ⟨_, hb, rfl, argsL hl hn hO⟩
  cases f with
  | func fid =>
    have h0 : (ak (as.toList.map (jI C g))).f sk fr (fun l => au C.M (aco C fid) (a3J C fid) l hp fun v hp => P.f k sk fr hp v) = R := h
    obtain ⟨l, h1, hl, hn⟩ := a5N hR h0
    obtain ⟨hcan, v, hp', h6, hd⟩ := a0u ok hR (a6Z hfn fid) h1
    refine ⟨v, hp', 3, h6, a4C hop hcan hd fun {w F μ ρ} hO => ?_, .inr (.inr (.inr ⟨rfl, hcls⟩)), hnd⟩
    have hc := hO _ hm
    have e0 : ov C g sk fr (.func fid) = .x 3 .lf fid 0 0 := rfl
    rw [e0] at hc
    have hA := argsL hl hn hO
    generalize hρ : ρ (.func fid) = vf at hc
    cases hc with
    | @fn _ _ _ _ _ fs cs us e1 e2 e3 hu hv hx =>
      have hf : fs = #[] := Array.size_eq_zero_iff.1 e1
      have hc : cs = #[] := Array.size_eq_zero_iff.1 e2
      subst hf; subst hc
      exact ⟨#[], #[], rfl, by rw [Array.empty_append, Array.append_empty]; exact hA⟩
  | tmp t => exact other h
  | const c => exact other h
  | global n => exact other h
noncomputable def aal (C : Cx) : Bool := match tn C.P.funcs.toList C.self with
  | none => true
  | some fn => match fn.body with
    | none => true
    | some c => noRF c
noncomputable def abA (C : Cx) : Bool := match tn C.P.funcs.toList C.self with
  | none => true
  | some fn => !(fn.name == "runtime.NumGoroutine")
section
variable {C : Cx} {vs : Vs}
theorem a9U {C : Cx} {V : Env} (ok : cW C.M) (hy : C.yl = []) : Yields C V := by
  intro b l hp k R hR h
  unfold aaB at h
  have key : ∀ X : aa, vG b hp X = zo b hp.pr X := fun X => by cases hp; rfl
  obtain ⟨hpr, h1⟩ := a0x hR ((key _).symm.trans h)
  have h2 := iu ok hR h1
  obtain ⟨st, f, i, fr0, hB, h3⟩ := a5d hR h2
  obtain ⟨hst, h4⟩ := ax hR h3
  have e : ylOf C f i = agm := by unfold ylOf; rw [hy]
  rw [e] at h4; exact an hR h4
theorem cx_ok (ok : cW C.M) (gl : yW C vs) (mo : C.P.follows .mixedOrders = true) (hfn : ∀ p ∈ C.fn, bn (C.env vs) p.1 p.2) (hy : C.yl = []) : CxOk C vs :=
  ⟨ok, gl, mo, af9 ok hfn (a9U ok hy)⟩
theorem bc (ok : cW C.M) (gl : yW C vs) (mo : C.P.follows .mixedOrders = true) (hfn : ∀ p ∈ C.fn, bn (C.env vs) p.1 p.2) (hy : C.yl = []) (hname : abA C = true) (h : aal C = true) : bn (C.env vs) C.self (j1 C) := by
  refine afZ (cx_ok ok gl mo hfn hy) (fun fn hf => ?_) fun fn c n hf hc hlen z hz => ?_
  · unfold abA at hname
    have e : tn C.P.funcs.toList C.self = some fn := by rw [mR, Array.getElem?_toList]; exact hf
    rw [e] at hname
    simpa using hname
  · unfold aal at h
    have e : tn C.P.funcs.toList C.self = some fn := by rw [mR, Array.getElem?_toList]; exact hf
    rw [e] at h
    simp only [hc] at h
    rw [aaX h] at hz
    cases hz
end
section
variable {V : Env}
theorem bd : ∀ p ∈ ([] : List (Nat × bN)), bn V p.1 p.2 := fun _ h => (by cases h)
theorem aA {f : Nat} {G : bN} {l : List (Nat × bN)} (h : bn V f G) (t : ∀ p ∈ l, bn V p.1 p.2) : ∀ p ∈ (f, G) :: l, bn V p.1 p.2 := fun p hp => by
  rcases List.mem_cons.1 hp with rfl | hp
  · exact h
  · exact t p hp
theorem a8g (nx : Nat) (pr : List Nat) (rb b : Nat) : Hp.at ⟨.lf, nx, pr, rb⟩ b = .dead := qg _ _
theorem ad5 {μ : Mu} {F : Nat → Prop} {nx : Nat} {pr : List Nat} {rb : Nat} {w : World} (hd : ∀ b, μ b = none) (hi : ∀ B, F B → B < w.heap.size) (hg : V.Glo w F) : aP V μ F ⟨.lf, nx, pr, rb⟩ w :=
  ⟨fun b => by rw [a8g]; exact trivial, fun b _ _ _ h => by rw [a8g] at h; exact h.elim, fun b m hm => (by rw [hd] at hm; cases hm), hi, hg⟩
end
end Go.Proofs.YtbamejikafhenaaDoor.Ev
