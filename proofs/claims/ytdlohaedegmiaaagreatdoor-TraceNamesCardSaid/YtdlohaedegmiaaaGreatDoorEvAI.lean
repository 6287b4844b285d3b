import Derived.Test.YtdlohaedegmiaaaGreatDoorEvAH
import Derived.Laws.Tables
namespace Go.Proofs.YtdlohaedegmiaaaGreatDoor.Ev
theorem qw {f : Field → Bool} : ∀ {l : List Field}, allF f l = true → ∀ x ∈ l, f x = true
  | [], _, x, hx => by cases hx
  | a :: l, h, x, hx => by
    have h' : aW (f a) (allF f l) = true := h
    rw [aG] at h'
    rcases List.mem_cons.1 hx with rfl | hx
    · exact h'.1
    · exact qw h'.2 x hx
theorem qx {n : Nat} : ∀ {l : List (Nat × Operand)}, allP n l = true → ∀ p ∈ l, p.1 < n
  | [], _, p, hp => by cases hp
  | a :: l, h, p, hp => by
    have h' : aW (Nat.ble (Nat.succ a.1) n) (allP n l) = true := h
    rw [aG, aK] at h'
    rcases List.mem_cons.1 hp with rfl | hp
    · exact h'.1
    · exact qx h'.2 p hp
theorem om {P : Program} : ∀ (fs : List Field), (∀ x ∈ fs, known P x.type = true) → fs.mapM (fun f => (P.info? f.type).map fun i => (f.offset, i.size)) = some (fs.map fun f => (f.offset, aC P f.type))
  | [], _ => rfl
  | f :: fs, h => by
    obtain ⟨d, hd⟩ := cM (h f (List.mem_cons_self ..))
    obtain ⟨_, i, hi, hi2⟩ := aj hd
    rw [List.mapM_cons, om fs fun x hx => h x (List.mem_cons_of_mem _ hx), hi]
    simp [ba hi2]
section
variable {C : Cx} {g : G} {R : ab}
theorem nD (ok : aT C.M) (hR : R ≠ .fail) {P : Program} {t : TypeId} {ps : Array (Nat × Operand)} {sk : Row} {fr : Fr} {o z : Nat → Nat} {k : AV → ab}
    (hz : bq P t (aC P t) = true) (hfit : qT o z (aC P t) ps.toList = true)
    (hb : ∀ (v : Value) (i : TypeInfo) (l : List (Nat × Value)) (cs : Array Value), bC P t = some i → i.zero = some v → Instr.fill (fun i => some (o i, z i)) v.cells l = some cs → (∀ p ∈ l, ∃ q ∈ ps.toList, p.1 = q.1) → P.built t l = some cs)
    (h : (uk (partsOf C g ps.toList o z)).f sk fr (tK P t) (fun l => k (.agg l (aC P t))) = R) :
    ∃ v, k v = R ∧ ∀ {w : World} {F : Nat → Prop} {μ : Mu} {ρ : Operand → Value}, (∀ p ∈ ps.toList, ae w F μ (ov C g sk fr p.2) (ρ p.2)) → ∃ r, (Instr.build t (ps.map fun (i, x) => (i, ρ x))).run P w = .ok r w ∧ ae w F μ v r := by
  obtain ⟨l, h2, H⟩ := aeb ok hR h
  refine ⟨_, h2, fun {w F μ ρ} hρ => ?_⟩
  obtain ⟨i, v, q1, q2, q3, q4, q5⟩ := zI hz
  obtain ⟨cs, e1, e2⟩ := H (ρ := ρ) (place := fun i => some (o i, z i)) hρ (q5 w F μ) (lV hfit) fun p _ => rfl
  have hmap : (ps.map fun (i, x) => (i, ρ x)).toList = ps.toList.map fun p => (p.1, ρ p.2) := by rw [Array.toList_map]
  refine ⟨.agg cs, run_build w t _ cs ?_, e2.agg⟩
  rw [hmap]
  exact hb v i _ cs q1 q3 e1 fun p hp => by
    obtain ⟨q, hq, rfl⟩ := List.mem_map.1 hp
    exact ⟨q, hq, rfl⟩
theorem lT {p q : Nat → Option (Nat × Nat)} : ∀ (l : List (Nat × Value)) (cs : Array Value), (∀ x ∈ l, p x.1 = q x.1) → Instr.fill p cs l = Instr.fill q cs l
  | [], _, _ => rfl
  | (i, v) :: l, cs, h => by
    have h0 := h (i, v) (List.mem_cons_self ..)
    have ih : ∀ cs, Instr.fill p cs l = Instr.fill q cs l := fun cs => lT l cs fun x hx => h x (List.mem_cons_of_mem _ hx)
    simp only at h0
    simp only [Instr.fill, h0, ih]
theorem oK {P : Program} {t : TypeId} {fs : Array Field} (ht : bj P t = some (.struct fs)) (hk : allF (fun f => known P f.type) fs.toList = true) {v : Value} {i : TypeInfo} {l : List (Nat × Value)} {cs : Array Value} (hi : bC P t = some i) (hv : i.zero = some v)
    (hl : ∀ p ∈ l, p.1 < fs.size) (h : Instr.fill (fun i => some (bP fs i, aC P (cd fs i))) v.cells l = some cs) : P.built t l = some cs := by
  unfold Program.built
  have hm := om fs.toList (qw hk)
  simp only [bl hi, (aj ht).1, hv, hm]
  rw [← h]
  refine lT _ _ fun x hx => ?_
  obtain ⟨f, hf, h1, h2⟩ := k6 (hl x hx)
  rw [h1, h2]
  simp [hf]
theorem qF {P : Program} {t e : TypeId} {n : Nat} (ht : bj P t = some (.array n e)) (hk : known P e = true) {v : Value} {i : TypeInfo} {l : List (Nat × Value)} {cs : Array Value} (hi : bC P t = some i) (hv : i.zero = some v)
    (h : Instr.fill (fun i => some (i * aC P e, aC P e)) v.cells l = some cs) : P.built t l = some cs := by
  obtain ⟨d, hd⟩ := cM hk
  obtain ⟨_, ie, hie, hie2⟩ := aj hd
  unfold Program.built
  simp only [bl hi, (aj ht).1, hv, hie]
  rw [ba hie2] at h
  exact h
end
def a5r (kd c : Nat) : Prop := kd = 0 ∨ (kd = 1 ∧ c = 1) ∨ (kd = 2 ∧ c = 2) ∨ (kd = 3 ∧ 3 ≤ c)
def Out (C : Cx) (V : Env) (g : G) (P : Pt) (k : Sm) (sk : Row) (fr : Fr) (o : Oper) (id : Nat) (hp : Hp) (R : ab) : Prop :=
  ∃ v hp' kd, P.f k sk fr hp' v = R ∧ ep V (ov C g sk fr) o id hp v hp' kd ∧ a5r kd (cls C.P o.op) ∧ ∀ c, o.op ≠ .defer c
section
variable {C : Cx} {vs : Vs} {g : G} {P : Pt} {N : NK} {k : Sm} {R : ab} (ok : aT C.M) (hR : R ≠ .fail) {sk : Row} {fr : Fr} {hp : Hp} {id : Nat} {d : Option Tmp} {ty : TypeId} {pos : String} {af : Array Edge} {gd : Option (Nat × Bool)}
abbrev Cx.env (C : Cx) (vs : Vs) : Env := ⟨C.P, vs⟩
theorem aQ (hR : R ≠ .fail) {b : Bool} {s : Sm} (h : (iff b s).run sk fr hp = R) : b = true ∧ s.run sk fr hp = R := by
  cases b
  · exact aa hR h
  · exact ⟨rfl, h⟩
theorem cN {o : Oper} {x : Operand} {s : Value → Sem Value} (hd : ∀ c, o.op ≠ .defer c) (hx : x ∈ o.op.operands.toList) (he : ∀ ρ, execOp ρ o = (do Pure.pure (.value (← s (ρ x))))) (h : ∃ v, P.f k sk fr hp v = R ∧ iu C.P s (ov C g sk fr x) v) : Out C (C.env vs) g P k sk fr o id hp R :=
  let ⟨v, h1, h2⟩ := h; ⟨v, hp, 0, h1, ep.pure1 hx he h2, .inl rfl, hd⟩
theorem dM {o : Oper} {x y : Operand} {s : Value → Value → Sem Value} (hd : ∀ c, o.op ≠ .defer c) (hx : x ∈ o.op.operands.toList) (hy : y ∈ o.op.operands.toList) (he : ∀ ρ, execOp ρ o = (do Pure.pure (.value (← s (ρ x) (ρ y))))) (h : ∃ v, P.f k sk fr hp v = R ∧ bY C.P s (ov C g sk fr x) (ov C g sk fr y) v) : Out C (C.env vs) g P k sk fr o id hp R :=
  let ⟨v, h1, h2⟩ := h; ⟨v, hp, 0, h1, ep.pure2 hx hy he h2, .inl rfl, hd⟩
theorem c6 {o : Oper} (hd : ∀ c, o.op ≠ .defer c) (h : ∃ v, P.f k sk fr hp v = R ∧ ∀ {w : World} {F : Nat → Prop} {μ : Mu} {ρ : Operand → Value}, iC w F μ (ov C g sk fr) o.op.operands.toList ρ → ∃ r x, (execOp ρ o).run C.P w = .ok r w ∧ Nx r x ∧ ae w F μ v x) : Out C (C.env vs) g P k sk fr o id hp R :=
  let ⟨v, h1, h2⟩ := h; ⟨v, hp, 0, h1, ep.pure rfl h2, .inl rfl, hd⟩
include ok hR
theorem rZ {x : Operand} (o : Oper) (hop : o.op = .move x ∨ o.op = .assign x) (h : (a5x C g P k x).run sk fr hp = R) : Out C (C.env vs) g P k sk fr o id hp R := by
  have _ := ok
  have h1 := aE hR (k := fun v => P.f k sk fr hp v) h
  refine c6 (by rcases hop with e | e <;> rw [e] <;> simp) ⟨_, h1, fun hO => ⟨_, _, ?_, .inl rfl, hO x (by rcases hop with e | e <;> rw [e] <;> simp [Op.operands])⟩⟩
  rcases hop with e | e <;> simp only [execOp, e, Sem.run_pure]
theorem a2a {c x y : Operand} (o : Oper) (hop : o.op = .pick c x y) (h : (a5y C g P k c x y).run sk fr hp = R) : Out C (C.env vs) g P k sk fr o id hp R := by
  have _ := ok
  have h1 := aE hR (k := fun v => v.dx fun t => when t ((cH C g x).get sk fr fun v => P.f k sk fr hp v) ((cH C g y).get sk fr fun v => P.f k sk fr hp v)) h
  obtain ⟨b, hb, h2⟩ := dZ hR h1
  have hd : ∀ c, o.op ≠ .defer c := by rw [hop]; simp
  have mem : ∀ z, z = c ∨ z = x ∨ z = y → z ∈ o.op.operands.toList := fun z hz => by rw [hop]; rcases hz with rfl | rfl | rfl <;> simp [Op.operands]
  rcases ar hR h2 with ⟨e, h3⟩ | ⟨e, h3⟩
  · have h4 := aE hR (k := fun v => P.f k sk fr hp v) h3
    refine c6 hd ⟨_, h4, fun {w F μ ρ} hO => ⟨.value (ρ x), _, ?_, .inl rfl, hO x (mem x (.inr (.inl rfl)))⟩⟩
    have hc := hO c (mem c (.inl rfl))
    rw [hb] at hc
    simp [execOp, hop, de hc, asBool, e]
  · have h4 := aE hR (k := fun v => P.f k sk fr hp v) h3
    refine c6 hd ⟨_, h4, fun {w F μ ρ} hO => ⟨.value (ρ y), _, ?_, .inl rfl, hO y (mem y (.inr (.inr rfl)))⟩⟩
    have hc := hO c (mem c (.inl rfl))
    rw [hb] at hc
    simp [execOp, hop, de hc, asBool, e]
theorem yf (hN : bO N hp id) {t : TypeId} (o : Oper) (hop : o.op = .alloc t) (hk : bm (aU C.P t) = true) (h : (zX C P N k t ⟨fun _ _ k => k (aU C.P t)⟩).run sk fr hp = R) : Out C (C.env vs) g P k sk fr o id hp R := by
  obtain ⟨B, hp', h1, hs, hn, H⟩ := tX (V := C.env vs) ok hR hN (t := t) (k := fun v hp => P.f k sk fr hp v) hk h
  exact ⟨_, hp', 2, h1, ep.new (fun _ => ()) (fun ρ => by simp only [execOp, hop]) (fun _ => trivial) hs hn H, .inr (.inr (.inl ⟨rfl, by rw [hop]; rfl⟩)), by rw [hop]; simp⟩
theorem a3N (hN : bO N hp id) {t : TypeId} {x : Operand} (o : Oper) (hop : o.op = .box t x) (h : (zX C P N k t (cH C g x)).run sk fr hp = R) : Out C (C.env vs) g P k sk fr o id hp R := by
  have h1 := aE hR (k := fun a => zU C.M N a (a0I C.P t) (aC C.P t) hp fun v hp => P.f k sk fr hp v) h
  obtain ⟨B, hp', h2, hs, hn, H⟩ := qE (V := C.env vs) ok hR hN (t := t) (k := fun v hp => P.f k sk fr hp v) h1
  exact ⟨_, hp', 2, h2, ep.new (fun ρ => ρ x) (fun ρ => by simp only [execOp, hop]) (fun hO => hO x (by rw [hop]; simp [Op.operands])) hs hn H, .inr (.inr (.inl ⟨rfl, by rw [hop]; rfl⟩)), by rw [hop]; simp⟩
end
section
variable {C : Cx} {vs : Vs} {g : G} {P : Pt} {N : NK} {k : Sm} {R : ab} (ok : aT C.M) (hR : R ≠ .fail) {sk : Row} {fr : Fr} {hp : Hp} {id : Nat}
theorem u5 (hR : R ≠ .fail) {v : AV} {z sz : Nat} {q : AV → Hp → ab} {M : Mem} (h : zU M N v z sz hp q = R) : bm v = true := by
  cases hv : bm v with
  | true => rfl
  | false =>
    cases v with
    | x gg t a b c =>
      cases gg with
      | zero =>
        rcases ar hR h with ⟨_, h1⟩ | ⟨_, h1⟩
        · exact aa hR h1
        · exact aa hR h1
      | succ n => cases hv
    | _ => cases hv
include ok hR
theorem tW (hN : bO N hp id) {t : TypeId} (o : Oper) (hop : o.op = .alloc t) (h : (zX C P N k t ⟨fun _ _ k => k (aU C.P t)⟩).run sk fr hp = R) : Out C (C.env vs) g P k sk fr o id hp R :=
  yf ok hR hN o hop (u5 hR (M := C.M) (hp := hp) (N := N) (v := aU C.P t) (z := a0I C.P t) (sz := aC C.P t) (q := fun v hp => P.f k sk fr hp v) h) h
theorem ue {t : TypeId} {ps : Array (Nat × Operand)} (o : Oper) (hop : o.op = .build t ps) (h : (u9 C g P k t ps).run sk fr hp = R) : Out C (C.env vs) g P k sk fr o id hp R := by
  have hd : ∀ c, o.op ≠ .defer c := by rw [hop]; simp
  have mem : ∀ p ∈ ps.toList, p.2 ∈ o.op.operands.toList := fun p hp => by
    rw [hop]
    show p.2 ∈ ((ps.toList.map (·.2)).toArray).toList
    rw [List.toList_toArray]
    exact List.mem_map.2 ⟨p, hp, rfl⟩
  have fin : (∃ v, P.f k sk fr hp v = R ∧ ∀ {w : World} {F : Nat → Prop} {μ : Mu} {ρ : Operand → Value}, (∀ p ∈ ps.toList, ae w F μ (ov C g sk fr p.2) (ρ p.2)) → ∃ r, (Instr.build t (ps.map fun (i, x) => (i, ρ x))).run C.P w = .ok r w ∧ ae w F μ v r) → Out C (C.env vs) g P k sk fr o id hp R := fun ⟨v, h1, h2⟩ => by
    refine c6 hd ⟨v, h1, fun {w F μ ρ} hO => ?_⟩
    obtain ⟨r, e1, e2⟩ := h2 (w := w) (F := F) (μ := μ) (ρ := ρ) fun p hp => hO _ (mem p hp)
    exact ⟨_, r, by simp only [execOp, hop]; exact b7 e1, .inl rfl, e2⟩
  unfold u9 at h
  split at h
  · rename_i fs hu
    obtain ⟨hb, h1⟩ := aQ hR h
    rw [aG, aG, aG] at hb
    obtain ⟨hz, hk, hP, hfit⟩ := hb
    exact fin (nD (k := fun v => P.f k sk fr hp v) ok hR hz hfit (fun v i l cs hi hv hf hl => oK hu hk hi hv (fun p hp => by
      obtain ⟨q, hq, e⟩ := hl p hp
      rw [e]; exact qx hP q hq) hf) h1)
  · rename_i n e hu
    obtain ⟨hb, h1⟩ := aQ hR h
    rw [aG, aG] at hb
    obtain ⟨hz, hk, hfit⟩ := hb
    exact fin (nD (k := fun v => P.f k sk fr hp v) ok hR hz hfit (fun v i l cs hi hv hf hl => qF hu hk hi hv hf) h1)
  · exact aa hR h
theorem fH {Q : Program} {t e : TypeId} (h : slT Q t = some e) : bj Q t = some (.slice e) := by
  have _ := ok
  have _ := hR
  unfold slT at h
  split at h
  · rename_i e' hu; cases h; exact hu
  · cases h
theorem l8 (hN : bO N hp id) {t : TypeId} {len : Nat} {ps : Array (Nat × Operand)} (o : Oper) (hop : o.op = .buildSlice t len ps) (h : (gj C g P N k t len ps).run sk fr hp = R) : Out C (C.env vs) g P k sk fr o id hp R := by
  have mem : ∀ p ∈ ps.toList, p.2 ∈ o.op.operands.toList := fun p hp => by
    rw [hop]
    show p.2 ∈ ((ps.toList.map (·.2)).toArray).toList
    rw [List.toList_toArray]
    exact List.mem_map.2 ⟨p, hp, rfl⟩
  unfold gj at h
  split at h
  · exact aa hR h
  · rename_i e hs
    obtain ⟨hb, h1⟩ := aQ hR h
    rw [aG, aG, aG, aK, aK] at hb
    obtain ⟨hz, hzk, hle, hfit⟩ := hb
    obtain ⟨B, hp', h2, hset, hn, H⟩ := lE (V := C.env vs) ok hR hN (k := fun v hp => P.f k sk fr hp v) (fH ok hR hs) rfl hz hzk hle hfit h1
    exact ⟨_, hp', 2, h2, ep.new (fun ρ => ρ) (fun ρ => by simp only [execOp, hop]) (fun hO p hp => hO _ (mem p hp)) hset hn H, .inr (.inr (.inl ⟨rfl, by rw [hop]; rfl⟩)), by rw [hop]; simp⟩
theorem yq {t : TypeId} {x : Operand} (o : Oper) (hop : o.op = .load t x) (h : (a00 C g P k t x).run sk fr hp = R) : Out C (C.env vs) g P k sk fr o id hp R := by
  unfold a00 at h
  cases hk : known C.P t with
  | false => rw [hk] at h; exact aa hR h
  | true =>
    rw [hk] at h
    have h1 := aE hR (k := fun a => rU C.M (isAgg C.P t) (aC C.P t) a hp fun v => P.f k sk fr hp v) h
    obtain ⟨v, h2, hl, H⟩ := nV (V := C.env vs) ok hR (cM hk) h1
    exact ⟨v, hp, 1, h2, ep.a7Q (by rw [hop]; rfl) (by rw [hop]; simp [Op.operands]) (fun ρ => by simp only [execOp, hop]) hl H, .inr (.inl ⟨rfl, by rw [hop]; rfl⟩), by rw [hop]; simp⟩
theorem uq {t : TypeId} {x y : Operand} (o : Oper) (hop : o.op = .store t x y) (h : (a01 C g P k t x y).run sk fr hp = R) : Out C (C.env vs) g P k sk fr o id hp R := by
  have hd : ∀ c, o.op ≠ .defer c := by rw [hop]; simp
  obtain ⟨hz, h0⟩ := aQ hR h
  rw [aK] at hz
  have h1 := aE hR (k := fun a => (cH C g y).get sk fr fun v => pJ C.M (aC C.P t) a v hp fun hp => P.f k sk fr hp bp) h0
  have h2 := aE hR (k := fun v => pJ C.M (aC C.P t) (ov C g sk fr x) v hp fun hp => P.f k sk fr hp bp) h1
  obtain ⟨hp', h3, H⟩ := vG (V := C.env vs) ok hR hz h2
  exact ⟨_, hp', 3, h3, ep.ux hd fun hO _ hH => fL.ofU (by simp only [execOp, hop]) (H (hO x (by rw [hop]; simp [Op.operands])) (hO y (by rw [hop]; simp [Op.operands])) hH), .inr (.inr (.inr ⟨rfl, by rw [hop]; exact Nat.le_refl _⟩)), hd⟩
theorem a06 {x : Operand} (o : Oper) (hop : o.op = .nilCheck x) (h : (nF C g P k x).run sk fr hp = R) : Out C (C.env vs) g P k sk fr o id hp R := by
  have _ := ok
  have h1 := aE hR (k := fun v => v.on (fun _ _ => .fail) (fun _ => .fail) (fun _ _ => .fail) (fun _ _ => P.f k sk fr hp v) (fun _ _ _ _ => .fail) (fun _ _ _ _ => .fail) (fun _ _ => .fail) (fun _ _ => .fail) (fun g _ _ _ _ => aq (Nat.beq g 1 || Nat.beq g 3 || Nat.beq g 5 || Nat.beq g 12) (P.f k sk fr hp v))) h
  obtain ⟨h2, H⟩ := a4U hR (k := fun v => P.f k sk fr hp v) h1
  refine c6 (by rw [hop]; simp) ⟨_, h2, fun {w F μ ρ} hO => ?_⟩
  have hx := hO x (by rw [hop]; simp [Op.operands])
  refine ⟨.value (ρ x), _, ?_, .inl rfl, hx⟩
  simp only [execOp, hop]
  rcases H hx with ⟨a, e⟩ | ⟨f, fs, cs, e⟩ | ⟨l, e⟩ | ⟨t, v, e⟩ <;> rw [e] <;> rfl
theorem wj {x : Operand} {f : AV → (AV → ab) → ab} (h : (c1 C g P k x f).run sk fr hp = R) : f (ov C g sk fr x) (fun v => P.f k sk fr hp v) = R := have _ := ok; aE hR (k := fun a => f a fun v => P.f k sk fr hp v) h
theorem yk {op : BinOp} {t u : TypeId} {x y : Operand} (o : Oper) (hop : o.op = .binOp op t x y u) (h : (wk C g P k op t x y).run sk fr hp = R) : Out C (C.env vs) g P k sk fr o id hp R := by
  have _ := ok
  unfold wk at h
  have h1 := aE hR (k := fun a => (cH C g y).get sk fr fun b => (match bj C.P t with
    | some (.int ik) => k9 op (kc ik)
    | some .string => a34 op
    | _ => a1W (gx C.P t) op : BK).f a b fun v => P.f k sk fr hp v) h
  have h2 := aE hR (k := fun b => (match bj C.P t with
    | some (.int ik) => k9 op (kc ik)
    | some .string => a34 op
    | _ => a1W (gx C.P t) op : BK).f (ov C g sk fr x) b fun v => P.f k sk fr hp v) h1
  obtain ⟨v, h3, H⟩ := a3M hR (x := x) (y := y) h2
  exact dM (s := oJ op t x y) (by rw [hop]; simp) (by rw [hop]; simp [Op.operands]) (by rw [hop]; simp [Op.operands]) (fun ρ => by simp only [execOp, hop]; rfl) ⟨v, h3, H⟩
theorem a02 {op : BinOp} {t u : TypeId} {x y : Operand} (o : Oper) (hop : o.op = .binOp op t x y u) (h : (cBin C g P k op t x y).run sk fr hp = R) : Out C (C.env vs) g P k sk fr o id hp R := by
  have e : cBin C g P k op t x y = if aW (isIface C.P t) (pb y) = true then zW C g P k op x else wk C g P k op t x y := aZ _ _ _
  rw [e] at h
  split at h
  · rename_i hc
    rw [aG] at hc
    have fin : ∀ (q : Bool → Bool), (op = .eql ∧ q = (fun b => b) ∨ op = .neq ∧ q = (!·)) → (∃ b, P.f k sk fr hp (.bool (q b)) = R ∧ ∀ {w : World} {F : Nat → Prop} {μ : Mu} {u : Value}, ae w F μ (ov C g sk fr x) u → b6 4 b u) → Out C (C.env vs) g P k sk fr o id hp R := fun q hq ⟨b, h1, h2⟩ => by
      refine dM (x := x) (y := y) (s := oJ op t x y) (by rw [hop]; simp) (by rw [hop]; simp [Op.operands]) (by rw [hop]; simp [Op.operands]) (fun ρ => by simp only [execOp, hop]; rfl) ⟨_, h1, fun {w F μ u v} ha hb => ?_⟩
      obtain ⟨ey, e1, e2⟩ := a3L (x := x) hc.1 hc.2 (h2 ha) w
      have hv : v = .nilIface := by
        have hb' : ae w F μ (.x 11 .lf 0 0 0) v := by rw [ey] at hb; exact hb
        cases hb'; rfl
      subst hv
      rcases hq with ⟨rfl, rfl⟩ | ⟨rfl, rfl⟩
      · exact ⟨_, e1, .bool _⟩
      · exact ⟨_, e2, .bool _⟩
    unfold zW at h
    split at h
    · obtain ⟨b, h1, h2⟩ := jt hR (by omega) (wj ok hR h)
      exact fin (fun b => b) (.inl ⟨rfl, rfl⟩) ⟨b, h1, h2⟩
    · obtain ⟨b, h1, h2⟩ := jt hR (by omega) (wj ok hR h)
      exact fin (!·) (.inr ⟨rfl, rfl⟩) ⟨b, by rw [← cR]; exact h1, h2⟩
    · exact aa hR h
  · exact yk ok hR o hop h
theorem a3V {op : UnOp} {t : TypeId} {x : Operand} (o : Oper) (hop : o.op = .unOp op t x) (h : (cUn C g P k op x).run sk fr hp = R) : Out C (C.env vs) g P k sk fr o id hp R := by
  have _ := ok
  have fin : ∀ (f : AV → (AV → ab) → ab), (c1 C g P k x f).run sk fr hp = R → (∀ {a : AV} {q : AV → ab}, f a q = R → ∃ v, q v = R ∧ iu C.P (Op.unary op) a v) → Out C (C.env vs) g P k sk fr o id hp R := fun f h H =>
    cN (s := Op.unary op) (by rw [hop]; simp) (by rw [hop]; simp [Op.operands]) (fun ρ => by simp only [execOp, hop]) (H (aE hR (k := fun a => f a fun v => P.f k sk fr hp v) h))
  cases op with
  | neg => exact fin (fun a k => a.bo fun i n => bX i (Nat.mod (Nat.sub (md i) n) (md i)) k) h fun h => a4T hR h
  | xor => exact fin (fun a k => a.bo fun i n => bX i (Nat.sub (Nat.sub (md i) 1) n) k) h fun h => a3U hR h
  | not => exact fin (fun a k => a.dx fun b => k (.bool (bZ b))) h fun h => a4W hR h
  | _ => exact aa hR h
theorem lI {t : TypeId} {x : Operand} {f : Nat} (o : Oper) (hop : o.op = .fieldAddr t x f) (h : (iE C g P k t x f).run sk fr hp = R) : Out C (C.env vs) g P k sk fr o id hp R := by
  have _ := ok
  unfold iE at h
  split at h
  · rename_i fs hu
    obtain ⟨hb, h0⟩ := aQ hR h
    rw [aG, aK, aK] at hb
    have h1 := aE hR (k := fun a => fieldAddr (bP fs f) a fun v => P.f k sk fr hp v) h0
    exact cN (s := fun u => Instr.fieldAt t u f) (by rw [hop]; simp) (by rw [hop]; simp [Op.operands]) (fun ρ => by simp only [execOp, hop]) (ng hR hu hb.1 hb.2 h1)
  · exact aa hR h
theorem uh {t : TypeId} {x : Operand} {f : Nat} (o : Oper) (hop : o.op = .field t x f) (h : (ua C g P k t x f).run sk fr hp = R) : Out C (C.env vs) g P k sk fr o id hp R := by
  have _ := ok
  unfold ua at h
  split at h
  · rename_i fs hu
    obtain ⟨hb, h0⟩ := aQ hR h
    rw [aG, aK] at hb
    have h1 := aE hR (k := fun a => og (isAgg C.P (cd fs f)) (aC C.P (cd fs f)) (bP fs f) a fun v => P.f k sk fr hp v) h0
    exact cN (s := fun u => Instr.field t u f) (by rw [hop]; simp) (by rw [hop]; simp [Op.operands]) (fun ρ => by simp only [execOp, hop]) (yB hR hu hb.1 hb.2 h1)
  · exact aa hR h
theorem jU {x y : Operand} {f : AV → AV → (AV → ab) → ab} (h : (c2 C g P k x y f).run sk fr hp = R) : f (ov C g sk fr x) (ov C g sk fr y) (fun v => P.f k sk fr hp v) = R := by
  have _ := ok
  have h1 := aE hR (k := fun a => (cH C g y).get sk fr fun b => f a b fun v => P.f k sk fr hp v) h
  exact aE hR (k := fun b => f (ov C g sk fr x) b fun v => P.f k sk fr hp v) h1
theorem jd {x y : Operand} {f : AV → AV → Hp → (AV → Hp → ab) → ab} (h : (c2h C g P k x y f).run sk fr hp = R) : f (ov C g sk fr x) (ov C g sk fr y) hp (fun v hp => P.f k sk fr hp v) = R := by
  have _ := ok
  have h1 := aE hR (k := fun a => (cH C g y).get sk fr fun b => f a b hp fun v hp => P.f k sk fr hp v) h
  exact aE hR (k := fun b => f (ov C g sk fr x) b hp fun v hp => P.f k sk fr hp v) h1
theorem lJ {t : TypeId} {x i : Operand} (o : Oper) (hop : o.op = .indexAddr t x i) (h : (iF C g P k t x i).run sk fr hp = R) : Out C (C.env vs) g P k sk fr o id hp R := by
  have fin : ∀ {v : AV}, _ → _ → _ := fun {v} h H => dM (C := C) (vs := vs) (g := g) (P := P) (k := k) (R := R) (sk := sk) (fr := fr) (hp := hp) (id := id) (o := o) (x := x) (y := i) (s := Instr.indexAt t) (by rw [hop]; simp) (by rw [hop]; simp [Op.operands]) (by rw [hop]; simp [Op.operands]) (fun ρ => by simp only [execOp, hop]) ⟨v, h, H⟩
  unfold iF at h
  split at h
  · rename_i n e hu
    obtain ⟨hb, h0⟩ := aQ hR h
    rw [aK] at hb
    obtain ⟨v, h1, H⟩ := p9 hR hu rfl hb (jU ok hR h0)
    exact fin h1 H
  · rename_i e hu
    obtain ⟨hb, h0⟩ := aQ hR h
    rw [aK] at hb
    obtain ⟨v, h1, H⟩ := nh hR hu rfl hb (jU ok hR h0)
    exact fin h1 H
  · exact aa hR h
theorem ui {t : TypeId} {x i : Operand} (o : Oper) (hop : o.op = .index t x i) (h : (ub C g P k t x i).run sk fr hp = R) : Out C (C.env vs) g P k sk fr o id hp R := by
  have fin : ∀ {v : AV}, _ → _ → _ := fun {v} h H => dM (C := C) (vs := vs) (g := g) (P := P) (k := k) (R := R) (sk := sk) (fr := fr) (hp := hp) (id := id) (o := o) (x := x) (y := i) (s := Instr.index t) (by rw [hop]; simp) (by rw [hop]; simp [Op.operands]) (by rw [hop]; simp [Op.operands]) (fun ρ => by simp only [execOp, hop]) ⟨v, h, H⟩
  unfold ub at h
  split at h
  · rename_i n e hu
    obtain ⟨hb, h0⟩ := aQ hR h
    obtain ⟨v, h1, H⟩ := yH hR hu hb (jU ok hR h0)
    exact fin h1 H
  · rename_i hu
    obtain ⟨v, h1, H⟩ := pa hR hu (jU ok hR h)
    exact fin h1 H
  · exact aa hR h
theorem qI {t : TypeId} {x i : Operand} {cm : Bool} (o : Oper) (hop : o.op = .lookup t x i cm) (h : (oN C g P k t x i cm).run sk fr hp = R) : Out C (C.env vs) g P k sk fr o id hp R := by
  unfold oN at h
  split at h
  · rename_i kt e hu
    split at h
    · exact aa hR h
    · rename_i c hk
      obtain ⟨v, h1, hl, H⟩ := vg (V := C.env vs) ok hR (cm := cm) hu hk (m := ov C g sk fr x) (key := ov C g sk fr i) (hp := hp) (k := fun v hp => P.f k sk fr hp v) (jd ok hR h)
      exact ⟨v, hp, 1, h1, ep.read2 (by rw [hop]; rfl) (by rw [hop]; simp [Op.operands]) (by rw [hop]; simp [Op.operands]) (fun ρ => by simp only [execOp, hop]) hl H, .inr (.inl ⟨rfl, by rw [hop]; rfl⟩), by rw [hop]; simp⟩
  · exact aa hR h
theorem lL {t : TypeId} {m i x : Operand} (o : Oper) (hop : o.op = .mapUpdate t m i x) (h : (iH C g P k t m i x).run sk fr hp = R) : Out C (C.env vs) g P k sk fr o id hp R := by
  have hd : ∀ c, o.op ≠ .defer c := by rw [hop]; simp
  unfold iH at h
  simp only at h
  split at h
  · rename_i kt e hu
    split at h
    · exact aa hR h
    · rename_i c hk
      let body : AV → AV → AV → ab := fun m key v => m.tO fun q _ b _ _ => aq (Nat.beq q 4) (eC b hp (hp.get C.M b fun B => B.eX fun n t =>
        (jh C.M c n).f t 0 key (fun j => C.M.rs.f t (Nat.succ j) v fun t => hp.put C.M b (.map n t) fun hp => P.f k sk fr hp bp)
        (C.M.rs.f t (Nat.mul 2 n) key fun t => C.M.rs.f t (Nat.succ (Nat.mul 2 n)) v fun t => hp.put C.M b (.map (Nat.succ n) t) fun hp => P.f k sk fr hp bp)))
      have h1 := aE hR (k := fun m => (cH C g i).get sk fr fun key => (cH C g x).get sk fr fun v => body m key v) h
      have h2 := aE hR (k := fun key => (cH C g x).get sk fr fun v => body (ov C g sk fr m) key v) h1
      have h3 := aE hR (k := fun v => body (ov C g sk fr m) (ov C g sk fr i) v) h2
      obtain ⟨hp', h4, H⟩ := ni (V := C.env vs) ok hR hu hk (k := fun hp => P.f k sk fr hp bp) h3
      exact ⟨_, hp', 3, h4, ep.ux hd fun hO _ hH => fL.ofU (by simp only [execOp, hop]) (H (hO m (by rw [hop]; simp [Op.operands])) (hO i (by rw [hop]; simp [Op.operands])) (hO x (by rw [hop]; simp [Op.operands])) hH), .inr (.inr (.inr ⟨rfl, by rw [hop]; exact Nat.le_refl _⟩)), hd⟩
  · exact aa hR h
theorem oP {x : Operand} {i : Nat} (o : Oper) (hop : o.op = .extract x i) (h : (qG C g P k x i).run sk fr hp = R) : Out C (C.env vs) g P k sk fr o id hp R := by
  have _ := ok
  have h1 := aE hR (k := fun v => v.o8 fun t _ => (vI i).get t fr fun v => P.f k sk fr hp v) h
  exact cN (s := fun u => Instr.extract u i) (by rw [hop]; simp) (by rw [hop]; simp [Op.operands]) (fun ρ => by simp only [execOp, hop]) (qR hR h1)
theorem yp {f : FuncId} {a b : Array Operand} (o : Oper) (hop : o.op = .makeFunc (.func f) a b) (h : (a5w C g P k f a b).run sk fr hp = R) : Out C (C.env vs) g P k sk fr o id hp R := by
  have _ := ok
  obtain ⟨r, h1, hl, hr⟩ := oH hR (l := a.toList ++ b.toList) (k := fun l => P.f k sk fr hp (.x 3 l f a.size b.size)) h
  refine c6 (by rw [hop]; simp) ⟨_, h1, fun {w F μ ρ} hO => ⟨_, _, ?_, .inl rfl, a2T (ρ := ρ) hl hr fun x hx => hO x (by rw [hop]; simp only [Op.operands, Array.toList_append]; exact hx)⟩⟩
  simp only [execOp, hop]
  rfl
theorem a05 (hN : bO N hp id) {t : TypeId} (o : Oper) (hop : o.op = .makeMap t none) (h : (qH P N k).run sk fr hp = R) : Out C (C.env vs) g P k sk fr o id hp R := by
  obtain ⟨B, hp', h1, hs, hn, H⟩ := rW (V := C.env vs) (M := C.M) ok hR hN (t := t) (k := fun v hp => P.f k sk fr hp v) h
  exact ⟨_, hp', 2, h1, ep.new (fun _ => ()) (fun ρ => by simp only [execOp, hop]; rfl) (fun _ => trivial) hs hn H, .inr (.inr (.inl ⟨rfl, by rw [hop]; rfl⟩)), by rw [hop]; simp⟩
theorem yr (hN : bO N hp id) {t : TypeId} {x : Operand} (o : Oper) (hop : o.op = .makeMap t (some x)) (h : (nE C g P N k t x).run sk fr hp = R) : Out C (C.env vs) g P k sk fr o id hp R := by
  obtain ⟨hb, h0⟩ := aQ hR h
  have h1 := aE hR (k := fun v => v.bo fun _ _ => N.f hp (.map 0 .lf) fun id hp => P.f k sk fr hp (.x 4 .lf id 0 0)) h0
  obtain ⟨i, n, hx, h2⟩ := aR hR h1
  obtain ⟨B, hp', h3, hs, hn, H⟩ := rW (V := C.env vs) (M := C.M) ok hR hN (t := t) (k := fun v hp => P.f k sk fr hp v) h2
  refine ⟨_, hp', 2, h3, .make B hs hn fun {w F μ ρ h h'} hO hid hH hs' hn' => ?_, .inr (.inr (.inl ⟨rfl, by rw [hop]; rfl⟩)), by rw [hop]; simp⟩
  obtain ⟨μ', F', w', r, e1, ⟨e2, e3⟩, e4, e5⟩ := H.out (u := ()) (w := w) (F := F) (μ := μ) (h := h) (h' := h') trivial hid hH hs' hn'
  refine ⟨_, r, w', μ', F', ?_, .inl rfl, e2, e3, e4, e5⟩
  have hxx := hO x (by rw [hop]; simp [Op.operands])
  rw [hx] at hxx
  obtain ⟨_, hxv⟩ := aY hxx
  have hmap : ∃ a b, bj C.P t = some (.map a b) := by
    split at hb
    · exact ⟨_, _, by assumption⟩
    · cases hb
  obtain ⟨a, b, hu⟩ := hmap
  simp only [execOp, hop]
  refine b7 ?_
  rw [← e1]
  simp [Instr.makeMap, run_underlying (aj hu).1, hxv, asInt, asIntOf]
theorem lK (hN : bO N hp id) {t : TypeId} {x y : Operand} (o : Oper) (hop : o.op = .makeSlice t x y) (h : (iG C g P N k t x y).run sk fr hp = R) : Out C (C.env vs) g P k sk fr o id hp R := by
  unfold iG at h
  split at h
  · exact aa hR h
  · rename_i e hs
    obtain ⟨hb, h0⟩ := aQ hR h
    rw [aG, aG, aK, aK] at hb
    obtain ⟨hz, hzk, hby⟩ := hb
    obtain ⟨B, v, hp', h1, hset, hn, H⟩ := zi (V := C.env vs) hR hN (fH ok hR hs) rfl hz hzk hby (k := fun v hp => P.f k sk fr hp v) (jd ok hR h0)
    exact ⟨v, hp', 2, h1, ep.new (fun ρ => (ρ x, ρ y)) (fun ρ => by simp only [execOp, hop]) (fun hO => ⟨hO x (by rw [hop]; simp [Op.operands]), hO y (by rw [hop]; simp [Op.operands])⟩) hset hn H, .inr (.inr (.inl ⟨rfl, by rw [hop]; rfl⟩)), by rw [hop]; simp⟩
end
section
variable {C : Cx} {vs : Vs} {g : G} {P : Pt} {N : NK} {k : Sm} {R : ab} (ok : aT C.M) (hR : R ≠ .fail) {sk : Row} {fr : Fr} {hp : Hp} {id : Nat}
noncomputable def oo (C : Cx) (g : G) (sk : Row) (fr : Fr) (x : Option Operand) : Option AV := x.map (ov C g sk fr)
theorem ij {w : World} {F : Nat → Prop} {μ : Mu} {ρ : Operand → Value} {l : List Operand} (x : Option Operand) (h : iC w F μ (ov C g sk fr) l ρ) (hm : ∀ y, x = some y → y ∈ l) : b8 w F μ (oo C g sk fr x) (x.map ρ) := by
  cases x with
  | none => trivial
  | some y => exact h y (hm y rfl)
include hR
theorem dh {x : Option Operand} {q : Option AV → ab} (h : (fF C g x).f sk fr q = R) : q (oo C g sk fr x) = R := by
  cases x with
  | none => exact h
  | some y => exact aE hR (k := fun v => q (some v)) h
include ok
theorem lk {x : Operand} {f : AV → Hp → (AV → Hp → ab) → ab} (h : (c1h C g P k x f).run sk fr hp = R) : f (ov C g sk fr x) hp (fun v hp => P.f k sk fr hp v) = R := have _ := ok; 
  aE hR (k := fun a => f a hp fun v hp => P.f k sk fr hp v) h
theorem u7 {x : Operand} {f : AV → (AV → ab) → ab} (h : (c1 C g P k x f).run sk fr hp = R) : f (ov C g sk fr x) (fun v => P.f k sk fr hp v) = R := have _ := ok; 
  aE hR (k := fun a => f a fun v => P.f k sk fr hp v) h
theorem uo {t : TypeId} {x : Operand} {lo hi mx : Option Operand} (o : Oper) (hop : o.op = .slice t x lo hi mx) (h : (uc C g P k t x lo hi mx).run sk fr hp = R) : Out C (C.env vs) g P k sk fr o id hp R := by
  have hd : ∀ c, o.op ≠ .defer c := by rw [hop]; simp
  have mx0 : x ∈ o.op.operands.toList := by rw [hop]; simp [Op.operands]
  have ml : ∀ y, lo = some y → y ∈ o.op.operands.toList := fun y e => by rw [hop]; subst e; simp [Op.operands]
  have mh : ∀ y, hi = some y → y ∈ o.op.operands.toList := fun y e => by rw [hop]; subst e; simp [Op.operands]
  have mm : ∀ y, mx = some y → y ∈ o.op.operands.toList := fun y e => by rw [hop]; subst e; simp [Op.operands]
  have he : ∀ ρ, execOp ρ o = (do Pure.pure (.value (← Instr.sliceAt t (ρ x) (lo.map ρ) (hi.map ρ) (mx.map ρ)))) := fun ρ => by simp only [execOp, hop]
  have pure : (∃ v, P.f k sk fr hp v = R ∧ vR C.P (Instr.sliceAt t) (ov C g sk fr x) (oo C g sk fr lo) (oo C g sk fr hi) (oo C g sk fr mx) v) → Out C (C.env vs) g P k sk fr o id hp R := fun ⟨v, h1, H⟩ => c6 hd ⟨v, h1, fun {w F μ ρ} hO => by
    obtain ⟨r, e1, e2⟩ := H (hO x mx0) (ij lo hO ml) (ij hi hO mh) (ij mx hO mm)
    exact ⟨_, r, by rw [he]; exact b7 e1, .inl rfl, e2⟩⟩
  unfold uc at h
  simp only at h
  split at h
  · rename_i n e hu
    obtain ⟨hb, h0⟩ := aQ hR h
    rw [aK] at hb
    let body : AV → Option AV → Option AV → Option AV → ab := fun v l h m => v.mC (fun b o => hp.use C.M b (Nat.add o (Nat.mul n (aC C.P e))) fun _ _ _ _ _ => fI (aC C.P e) (.ms b o n (aC C.P e)) l h m fun v => P.f k sk fr hp v)
      (fun t o c y => aq (Nat.beq y (aC C.P e)) (aq (Nat.beq (Nat.mod o (aC C.P e)) 0) (aq (Nat.ble (Nat.mul n (aC C.P e)) c) (fI (aC C.P e) (.vs t (Nat.div o (aC C.P e)) n (aC C.P e)) l h m fun v => P.f k sk fr hp v))))
    have h1 := aE hR (k := fun v => (fF C g lo).f sk fr fun l => (fF C g hi).f sk fr fun h => (fF C g mx).f sk fr fun m => body v l h m) h0
    have h2 := dh hR (q := fun l => (fF C g hi).f sk fr fun h => (fF C g mx).f sk fr fun m => body (ov C g sk fr x) l h m) h1
    have h3 := dh hR (q := fun h => (fF C g mx).f sk fr fun m => body (ov C g sk fr x) (oo C g sk fr lo) h m) h2
    have h4 := dh hR (q := fun m => body (ov C g sk fr x) (oo C g sk fr lo) (oo C g sk fr hi) m) h3
    rcases dL hR h4 with ⟨b, o', hx, h5⟩ | ⟨tt, o', c, y, hx, h5⟩
    · obtain ⟨v, h6, hl, H⟩ := pH (V := C.env vs) ok hR hu rfl hb h5
      refine ⟨v, hp, 1, h6, .read x rfl (by rw [hop]; rfl) mx0 (by rw [hx]; exact hl) fun {w F μ ρ} hO hro => ?_, .inr (.inl ⟨rfl, by rw [hop]; simp only [cls, hu]⟩), hd⟩
      rw [hx] at hro
      obtain ⟨r, e1, e2⟩ := H (by rw [← hx]; exact hO x mx0) (ij lo hO ml) (ij hi hO mh) (ij mx hO mm) hro
      exact ⟨_, r, by rw [he]; exact b7 e1, .inl rfl, e2⟩
    · obtain ⟨v, h6, H⟩ := nr (V := C.env vs) hR hu rfl hb h5
      exact pure ⟨v, h6, by rw [hx]; exact H⟩
  · rename_i e hu
    obtain ⟨hb, h0⟩ := aQ hR h
    rw [aK] at hb
    let body : AV → Option AV → Option AV → Option AV → ab := fun v l h m => fI (aC C.P e) v l h m fun v => P.f k sk fr hp v
    have h1 := aE hR (k := fun v => (fF C g lo).f sk fr fun l => (fF C g hi).f sk fr fun h => (fF C g mx).f sk fr fun m => body v l h m) h0
    have h2 := dh hR (q := fun l => (fF C g hi).f sk fr fun h => (fF C g mx).f sk fr fun m => body (ov C g sk fr x) l h m) h1
    have h3 := dh hR (q := fun h => (fF C g mx).f sk fr fun m => body (ov C g sk fr x) (oo C g sk fr lo) h m) h2
    have h4 := dh hR (q := fun m => body (ov C g sk fr x) (oo C g sk fr lo) (oo C g sk fr hi) m) h3
    exact pure (vB hR hu rfl hb h4)
  · rename_i hu
    obtain ⟨hb, h0⟩ := aQ hR h
    cases mx with
    | some y => cases hb
    | none =>
      let body : AV → Option AV → Option AV → ab := fun v l h => vC v l h fun v => P.f k sk fr hp v
      have h1 := aE hR (k := fun v => (fF C g lo).f sk fr fun l => (fF C g hi).f sk fr fun h => body v l h) h0
      have h2 := dh hR (q := fun l => (fF C g hi).f sk fr fun h => body (ov C g sk fr x) l h) h1
      have h3 := dh hR (q := fun h => body (ov C g sk fr x) (oo C g sk fr lo) h) h2
      exact pure (vD hR hu h3)
  · exact aa hR h
theorem ym (hN : bO N hp id) {s d : TypeId} {x : Operand} (o : Oper) (hop : o.op = .convert s d x) (h : (zZ C g P N k s d x).run sk fr hp = R) : Out C (C.env vs) g P k sk fr o id hp R := by
  have hd : ∀ c, o.op ≠ .defer c := by rw [hop]; simp
  have hx : x ∈ o.op.operands.toList := by rw [hop]; simp [Op.operands]
  have he : ∀ ρ, execOp ρ o = (do Pure.pure (.value (← convert s d (ρ x)))) := fun ρ => by simp only [execOp, hop]
  unfold zZ at h
  split at h
  · rename_i k1 k2 h1 h2
    exact cN hd hx he (a3X hR h1 h2 (u7 ok hR h))
  · rename_i h1 h2
    obtain ⟨s', n, hs, h4⟩ := aM hR (u7 ok hR h)
    refine cN (s := convert s d) hd hx he ⟨_, h4, fun {w F μ u} ha => ?_⟩
    rw [hs] at ha
    obtain ⟨B, rfl, _⟩ := cy ha
    exact ⟨.string B, by simp [convert, run_underlying (aj h1).1, run_underlying (aj h2).1], ha⟩
  · rename_i e h1 h2
    obtain ⟨he8, h3⟩ := aQ hR h
    obtain ⟨B, v, hp', h4, hs, hn, H⟩ := pK (V := C.env vs) ok hR hN h1 he8 h2 (k := fun v hp => P.f k sk fr hp v) (lk ok hR h3)
    exact ⟨v, hp', 2, h4, ep.new (fun ρ => ρ x) he (fun hO => hO x hx) hs hn H, .inr (.inr (.inl ⟨rfl, by rw [hop]; simp only [cls, h1, h2]⟩)), hd⟩
  · rename_i e h1 h2
    obtain ⟨he8, h3⟩ := aQ hR h
    have h4 := lk ok hR h3
    have hcls : cls C.P o.op = 1 := by rw [hop]; simp only [cls, h1, h2]
    have fin : ((∃ b o n z, ov C g sk fr x = .ms b o n z) ∨ ∃ t o n z, ov C g sk fr x = .vs t o n z) → (vz C.M 1 (ov C g sk fr x) hp fun t o n _ => (sc C.M n).f t o fun s => P.f k sk fr hp (.str s n)) = R → Out C (C.env vs) g P k sk fr o id hp R := fun hsl h5 => by
      obtain ⟨v, h6, hl, H⟩ := oL (V := C.env vs) ok hR h1 he8 h2 hsl (k := fun v => P.f k sk fr hp v) h5
      exact ⟨v, hp, 1, h6, ep.a7Q (by rw [hop]; rfl) hx he hl H, .inr (.inl ⟨rfl, hcls⟩), hd⟩
    rcases bF hR h4 with ⟨b, o', n, y, hv, h5⟩ | ⟨tt, o', n, y, hv, h5⟩ | ⟨i, tt, a', b', c, hv, h5⟩ | ⟨s', n, hv, h5⟩
    · exact fin (.inl ⟨b, o', n, y, hv⟩) h5
    · exact fin (.inr ⟨tt, o', n, y, hv⟩) h5
    · obtain ⟨hg, h6⟩ := ah hR h5
      rw [Bool.or_eq_true, an, an] at hg
      refine cN (s := convert s d) hd hx he ⟨_, h6, fun {w F μ u} ha => ?_⟩
      rw [hv] at ha
      have hempty : ae w F μ (.str 0 0) (.string ByteArray.empty) := jA rfl rfl
      rcases hg with rfl | rfl
      · cases ha
        exact ⟨_, by simp [convert, run_underlying (aj h1).1, run_underlying (aj h2).1, run_underlying (gB he8), Conv.bytesToString], hempty⟩
      · cases ha
        exact ⟨_, by simp [convert, run_underlying (aj h1).1, run_underlying (aj h2).1, run_underlying (gB he8), Conv.bytesToString]; rfl, hempty⟩
    · exact aa hR h5
  · rename_i e' e h1 h2
    obtain ⟨hb, h3⟩ := aQ hR h
    rw [aG, an] at hb
    obtain ⟨rfl, he8⟩ := hb
    obtain ⟨h4, H⟩ := a1S (V := C.env vs) ok hR h2 he8 (k := fun v hp => P.f k sk fr hp v) (lk ok hR h3)
    refine ⟨_, hp, 3, h4, ep.ux hd fun {w F μ ρ} hO _ hH => fL.of (he ρ) (H (hO x hx) hH) fun w' F' μ' r h => ?_, .inr (.inr (.inr ⟨rfl, by rw [hop]; simp only [cls, h1]; decide⟩)), hd⟩
    obtain ⟨q1, rfl⟩ := h
    exact ⟨q1, cI.refl _ _⟩
  · exact aa hR h
omit ok hR in
theorem fc {w : World} {F : Nat → Prop} {μ : Mu} {n : Nat} (h : n ≤ 9223372036854775807) : ae w F μ (.int 3 n) (goInt (n : Nat)) := by
  have := aN (w := w) (F := F) (μ := μ) (i := 3) (n := n) (by show n < 18446744073709551616; omega)
  rw [cX 3 n (by show n < 18446744073709551616; omega) (.inr (by show n < 9223372036854775808; omega))] at this
  exact this
theorem oO (hN : bO N hp id) {b : Builtin} {ts : Array TypeId} {aas : Array Operand} (o : Oper) (hop : o.op = .call ⟨.builtin b, aas, ts⟩) (h : (lG C g P N k b ts.toList aas.toList).run sk fr hp = R) : Out C (C.env vs) g P k sk fr o id hp R := by
  have hd : ∀ c, o.op ≠ .defer c := by rw [hop]; simp
  have mem : ∀ x ∈ aas.toList, x ∈ o.op.operands.toList := fun x hx => by rw [hop]; simpa [Op.operands, Call.operands] using hx
  have h0 : ∀ {t r}, ts.toList = t :: r → ts[0]? = some t := fun e => by rw [← Array.getElem?_toList, e]; rfl
  have he0 : ∀ ρ, execOp ρ o = builtin b ts o.type (aas.map fun | .const _ => true | _ => false) (aas.map ρ) := fun ρ => by
    simp only [execOp, hop]; rfl
  unfold lG at h
  split at h
  · -- len
    rename_i t r x hts has
    have hmap : ∀ ρ : Operand → Value, aas.map ρ = #[ρ x] := fun ρ => by rw [← Array.toList_inj, Array.toList_map, has]; rfl
    have he : ∀ ρ, execOp ρ o = (do Pure.pure (.value (← Builtin.len_ ts o.type #[ρ x]))) := fun ρ => by rw [he0, hmap]; rfl
    have hx := mem x (by rw [has]; exact List.mem_cons_self ..)
    have fin : ∀ q, (q = 0 ∧ bj C.P t = some .string) ∨ (q = 1 ∧ ∃ e, bj C.P t = some (.slice e)) ∨ (q = 2 ∧ ∃ a b, bj C.P t = some (.map a b)) → (cLen C g P k q x).run sk fr hp = R → Out C (C.env vs) g P k sk fr o id hp R := fun q hq h => by
      have h1 := aE hR (k := fun a => lenK C.M q a hp fun n => aq (Nat.ble n 9223372036854775807) (P.f k sk fr hp (.int 3 n))) h
      obtain ⟨n, h2, hl, H⟩ := a1Q hR ok (V := C.env vs) (ts := ts) (ty := o.type) (h0 hts) hq h1
      obtain ⟨hn, h3⟩ := ah hR h2
      rw [aK] at hn
      by_cases e2 : q = 2
      · obtain ⟨a, b, hm⟩ : ∃ a b, bj C.P t = some (.map a b) := by
          rcases hq with ⟨h, _⟩ | ⟨h, _⟩ | ⟨_, h⟩
          · omega
          · omega
          · exact h
        have has0 : aas[0]? = some x := by rw [← Array.getElem?_toList, has]; rfl
        have hts0 : ts.getD 0 0 = t := by rw [Array.getD_eq_getD_getElem?, h0 hts]; rfl
        exact ⟨_, hp, 1, h3, .read x rfl (by rw [hop]; exact has0) hx (hl e2) fun {w F μ ρ} hO hro => ⟨_, _, by rw [he]; exact b7 (H (hO x hx) fun _ => hro), .inl rfl, fc hn⟩, .inr (.inl ⟨rfl, by rw [hop]; simp only [cls, hts0, hm]⟩), hd⟩
      · exact c6 hd ⟨_, h3, fun {w F μ ρ} hO => ⟨_, _, by rw [he]; exact b7 (H (hO x hx) fun e => absurd e e2), .inl rfl, fc hn⟩⟩
    split at h
    · rename_i n e hu
      obtain ⟨hn, h1⟩ := aQ hR h
      rw [aK] at hn
      exact c6 hd ⟨_, h1, fun {w F μ ρ} hO => ⟨_, goInt (n : Nat), by rw [he]; exact b7 (by simp [Builtin.len_, h0 hts, run_underlying (aj hu).1]), .inl rfl, fc hn⟩⟩
    · rename_i hu; exact fin 0 (.inl ⟨rfl, hu⟩) h
    · rename_i e hu; exact fin 1 (.inr (.inl ⟨rfl, e, hu⟩)) h
    · rename_i a b hu; exact fin 2 (.inr (.inr ⟨rfl, a, b, hu⟩)) h
    · exact aa hR h
  · -- append
    rename_i t u x y hts has
    have hmap : ∀ ρ : Operand → Value, aas.map ρ = #[ρ x, ρ y] := fun ρ => by rw [← Array.toList_inj, Array.toList_map, has]; rfl
    have htl : ts = #[t, u] := by rw [← Array.toList_inj, hts]
    have he : ∀ ρ, execOp ρ o = (do Pure.pure (.value (← Builtin.append_ #[t, u] o.type #[ρ x, ρ y]))) := fun ρ => by rw [he0, hmap, htl]; rfl
    have hx := mem x (by rw [has]; exact List.mem_cons_self ..)
    have hy := mem y (by rw [has]; exact List.mem_cons_of_mem _ (List.mem_cons_self ..))
    split at h
    · rename_i e hs
      obtain ⟨hb, h1⟩ := aQ hR h
      rw [aG, aG, aK, aK] at hb
      obtain ⟨hby, hz, hzk⟩ := hb
      split at h1
      · rename_i kk hu
        obtain ⟨B, v, hp', h2, hs2, hid2, H⟩ := qz (V := C.env vs) hR hN (ty := o.type) (fH ok hR hs) hu rfl hz hzk hby (k := fun v hp => P.f k sk fr hp v) (jd ok hR h1)
        exact ⟨v, hp', 3, h2, ep.ux hd fun {w F μ ρ} hO hid hH => by
          obtain ⟨μ', F', w', r, r1, ⟨r2, r3⟩, r4, r5⟩ := H.out (u := (ρ x, ρ y)) ⟨hO x hx, hO y hy⟩ hid hH hs2 hid2
          exact ⟨_, r, w', μ', F', by rw [he]; exact b7 r1, .inl rfl, r2, r3, r4, r5⟩, .inr (.inr (.inr ⟨rfl, by rw [hop]; exact Nat.le_refl _⟩)), hd⟩
      · obtain ⟨hk, h1⟩ := aQ hR h1
        obtain ⟨v, hp', h2, H⟩ := qy (V := C.env vs) ok hR hN (ty := o.type) (fH ok hR hs) (yI hk) hzk hz rfl hby (k := fun v hp => P.f k sk fr hp v) (jd ok hR h1)
        exact ⟨v, hp', 3, h2, ep.ux hd fun {w F μ ρ} hO hid hH => fL.of (he ρ) (H (hO x hx) (hO y hy) hH hid) fun w' F' μ' r h => h, .inr (.inr (.inr ⟨rfl, by rw [hop]; exact Nat.le_refl _⟩)), hd⟩
    · exact aa hR h
  · -- cap
    rename_i t r x hts has
    have hmap : ∀ ρ : Operand → Value, aas.map ρ = #[ρ x] := fun ρ => by rw [← Array.toList_inj, Array.toList_map, has]; rfl
    have he : ∀ ρ, execOp ρ o = (do Pure.pure (.value (← Builtin.cap_ ts o.type #[ρ x]))) := fun ρ => by rw [he0, hmap]; rfl
    have hx := mem x (by rw [has]; exact List.mem_cons_self ..)
    split at h
    · rename_i e hs
      have h1 := u7 ok hR h
      obtain ⟨q, u1, u2, u3, u4, hv, h2⟩ := fE hR h1
      obtain ⟨hq, h3⟩ := ah hR h2
      exact c6 hd ⟨_, h3, fun {w F μ ρ} hO => ⟨_, goInt (0 : Nat), by
        have hr := hO x hx
        rw [hv] at hr
        have hq' : q = 8 ∨ q = 6 := by simpa [Bool.or_eq_true, an] using hq
        have : ∃ b, ρ x = .slice b 0 0 := by
          rcases hq' with rfl | rfl
          · generalize ρ x = rx at hr; cases hr; exact ⟨_, rfl⟩
          · generalize ρ x = rx at hr; cases hr; exact ⟨_, rfl⟩
        obtain ⟨b, hb⟩ := this
        rw [he, hb]
        exact b7 (by simp [Builtin.cap_, h0 hts, run_underlying (aj (fH ok hR hs)).1]), .inl rfl, fc (by omega)⟩⟩
    · exact aa hR h
  · -- copy
    rename_i t r x y hts has
    have hmap : ∀ ρ : Operand → Value, aas.map ρ = #[ρ x, ρ y] := fun ρ => by rw [← Array.toList_inj, Array.toList_map, has]; rfl
    have he : ∀ ρ, execOp ρ o = (do Pure.pure (.value (← Builtin.copy_ ts o.type #[ρ x, ρ y]))) := fun ρ => by rw [he0, hmap]; rfl
    have hx := mem x (by rw [has]; exact List.mem_cons_self ..)
    have hy := mem y (by rw [has]; exact List.mem_cons_of_mem _ (List.mem_cons_self ..))
    split at h
    · rename_i e hs
      obtain ⟨hz, h1⟩ := aQ hR h
      rw [aK] at hz
      obtain ⟨n, hp', h2, H⟩ := yv (V := C.env vs) ok hR (ty := o.type) (h0 hts) (fH ok hR hs) hz (k := fun n hp => aq (Nat.ble n 9223372036854775807) (P.f k sk fr hp (.int 3 n))) (jd ok hR h1)
      obtain ⟨hn, h3⟩ := ah hR h2
      rw [aK] at hn
      exact ⟨_, hp', 3, h3, ep.ux hd fun {w F μ ρ} hO hid hH => fL.of (he ρ) (H (hO x hx) (hO y hy) hH) fun w' F' μ' r h => by
        obtain ⟨rfl, rfl⟩ := h
        exact ⟨fc hn, cI.refl _ _⟩, .inr (.inr (.inr ⟨rfl, by rw [hop]; exact Nat.le_refl _⟩)), hd⟩
    · exact aa hR h
  · -- clear
    rename_i t r x hts has
    have hmap : ∀ ρ : Operand → Value, aas.map ρ = #[ρ x] := fun ρ => by rw [← Array.toList_inj, Array.toList_map, has]; rfl
    have he : ∀ ρ, execOp ρ o = (do Pure.pure (.value (← Builtin.clear_ ts o.type #[ρ x]))) := fun ρ => by rw [he0, hmap]; rfl
    have hx := mem x (by rw [has]; exact List.mem_cons_self ..)
    split at h
    · rename_i e hs
      obtain ⟨hb, h1⟩ := aQ hR h
      rw [aG, aK] at hb
      obtain ⟨hp', h2, H⟩ := uj (V := C.env vs) ok hR (ty := o.type) (h0 hts) (fH ok hR hs) hb.1 hb.2 (k := fun hp => P.f k sk fr hp bp) (lk ok hR h1)
      exact ⟨_, hp', 3, h2, ep.ux hd fun {w F μ ρ} hO hid hH => fL.of (he ρ) (H (hO x hx) hH) fun w' F' μ' r h => by
        obtain ⟨rfl, rfl⟩ := h
        exact ⟨im, cI.refl _ _⟩, .inr (.inr (.inr ⟨rfl, by rw [hop]; exact Nat.le_refl _⟩)), hd⟩
    · exact aa hR h
  · rename_i x y has
    have hmap : ∀ ρ : Operand → Value, aas.map ρ = #[ρ x, ρ y] := fun ρ => by rw [← Array.toList_inj, Array.toList_map, has]; rfl
    exact dM (s := fun u u' => Builtin.min_ ts o.type #[u, u']) hd (mem x (by rw [has]; exact List.mem_cons_self ..)) (mem y (by rw [has]; exact List.mem_cons_of_mem _ (List.mem_cons_self ..))) (fun ρ => by rw [he0, hmap]; rfl) (a4R hR ts o.type (jU ok hR h))
  · rename_i x y has
    have hmap : ∀ ρ : Operand → Value, aas.map ρ = #[ρ x, ρ y] := fun ρ => by rw [← Array.toList_inj, Array.toList_map, has]; rfl
    exact dM (s := fun u u' => Builtin.max_ ts o.type #[u, u']) hd (mem x (by rw [has]; exact List.mem_cons_self ..)) (mem y (by rw [has]; exact List.mem_cons_of_mem _ (List.mem_cons_self ..))) (fun ρ => by rw [he0, hmap]; rfl) (a4P hR ts o.type (jU ok hR h))
  · exact aa hR h
theorem jX (hN : bO N hp id) (o : Oper) (hcall : ∀ f aas ts, o.op = .call ⟨.value f, aas, ts⟩ → (zY C g P k f aas).run sk fr hp = R → Out C (C.env vs) g P k sk fr o id hp R) (h : (er C g P N k o.op).run sk fr hp = R) : Out C (C.env vs) g P k sk fr o id hp R := by
  cases hop : o.op <;> rw [hop] at h <;> first | exact aa hR h | skip
  case move x => exact rZ ok hR o (.inl hop) h
  case assign x => exact rZ ok hR o (.inr hop) h
  case pick c a b => exact a2a ok hR o hop h
  case alloc t => exact tW ok hR hN o hop h
  case box t x => exact a3N ok hR hN o hop h
  case build t ps => exact ue ok hR o hop h
  case buildSlice t n ps => exact l8 ok hR hN o hop h
  case load t a => exact yq ok hR o hop h
  case store t a x => exact uq ok hR o hop h
  case nilCheck x => exact a06 ok hR o hop h
  case binOp op t x y u => exact a02 ok hR o hop h
  case unOp op t x => exact a3V ok hR o hop h
  case convert s d x => exact ym ok hR hN o hop h
  case makeFunc f a b =>
    cases f with
    | func f => exact yp ok hR o hop h
    | _ => exact aa hR h
  case makeMap t r =>
    cases r with
    | none => exact a05 ok hR hN o hop h
    | some x => exact yr ok hR hN o hop h
  case makeSlice t a b => exact lK ok hR hN o hop h
  case slice t x lo hi mx => exact uo ok hR o hop h
  case fieldAddr t x f => exact lI ok hR o hop h
  case field t x f => exact uh ok hR o hop h
  case indexAddr t x i => exact lJ ok hR o hop h
  case index t x i => exact ui ok hR o hop h
  case lookup t x i cm => exact qI ok hR o hop h
  case mapUpdate t m i x => exact lL ok hR o hop h
  case extract x i => exact oP ok hR o hop h
  case call c =>
    obtain ⟨cal, aas, ts⟩ := c
    cases cal with
    | value f => exact hcall f aas ts hop h
    | invoke r m => exact aa hR h
    | builtin b => exact oO ok hR hN o hop h
end
end Go.Proofs.YtdlohaedegmiaaaGreatDoor.Ev
