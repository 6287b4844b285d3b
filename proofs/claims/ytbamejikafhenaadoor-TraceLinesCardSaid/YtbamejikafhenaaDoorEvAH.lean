import Derived.Test.YtbamejikafhenaaDoorEvAG
import Derived.Laws.Tables
namespace Go.Proofs.YtbamejikafhenaaDoor.Ev
theorem a2q {f : Field → Bool} : ∀ {l : List Field}, allF f l = true → ∀ x ∈ l, f x = true
  | [], _, x, hx => by cases hx
  | a :: l, h, x, hx => by
    have h' : bp (f a) (allF f l) = true := h
    rw [cI] at h'
    rcases List.mem_cons.1 hx with rfl | hx
    · exact h'.1
    · exact a2q h'.2 x hx
theorem a2R {n : Nat} : ∀ {l : List (Nat × Operand)}, allP n l = true → ∀ p ∈ l, p.1 < n
  | [], _, p, hp => by cases hp
  | a :: l, h, p, hp => by
    have h' : bp (Nat.ble (Nat.succ a.1) n) (allP n l) = true := h
    rw [cI, bA] at h'
    rcases List.mem_cons.1 hp with rfl | hp
    · exact h'.1
    · exact a2R h'.2 p hp
theorem zM {P : Program} : ∀ (fs : List Field), (∀ x ∈ fs, known P x.type = true) → fs.mapM (fun f => (P.info? f.type).map fun i => (f.offset, i.size)) = some (fs.map fun f => (f.offset, bw P f.type))
  | [], _ => rfl
  | f :: fs, h => by
    obtain ⟨d, hd⟩ := j9 (h f (List.mem_cons_self ..))
    obtain ⟨_, i, hi, hi2⟩ := aE hd
    rw [List.mapM_cons, zM fs fun x hx => h x (List.mem_cons_of_mem _ hx), hi]
    simp [dP hi2]
section
variable {C : Cx} {g : G} {R : aa}
theorem zL (ok : cW C.M) (hR : R ≠ .fail) {P : Program} {t : TypeId} {ps : Array (Nat × Operand)} {sk : Row} {fr : Fr} {o z : Nat → Nat} {k : AV → aa}
    (hz : fi P t (bw P t) = true) (hfit : a3h o z (bw P t) ps.toList = true)
    (hb : ∀ (v : Value) (i : TypeInfo) (l : List (Nat × Value)) (cs : Array Value), eT P t = some i → i.zero = some v → Instr.fill (fun i => some (o i, z i)) v.cells l = some cs → (∀ p ∈ l, ∃ q ∈ ps.toList, p.1 = q.1) → P.built t l = some cs)
    (h : (uk (partsOf C g ps.toList o z)).f sk fr (a2N P t) (fun l => k (.agg l (bw P t))) = R) :
    ∃ v, k v = R ∧ ∀ {w : World} {F : Nat → Prop} {μ : Mu} {ρ : Operand → Value}, (∀ p ∈ ps.toList, ao w F μ (ov C g sk fr p.2) (ρ p.2)) → ∃ r, (Instr.build t (ps.map fun (i, x) => (i, ρ x))).run P w = .ok r w ∧ ao w F μ v r := by
  obtain ⟨l, h2, H⟩ := aiC ok hR h
  refine ⟨_, h2, fun {w F μ ρ} hρ => ?_⟩
  obtain ⟨i, v, q1, q2, q3, q4, q5⟩ := a9N hz
  obtain ⟨cs, e1, e2⟩ := H (ρ := ρ) (place := fun i => some (o i, z i)) hρ (q5 w F μ) (we hfit) fun p _ => rfl
  have hmap : (ps.map fun (i, x) => (i, ρ x)).toList = ps.toList.map fun p => (p.1, ρ p.2) := by rw [Array.toList_map]
  refine ⟨.agg cs, run_build w t _ cs ?_, e2.agg⟩
  rw [hmap]
  exact hb v i _ cs q1 q3 e1 fun p hp => by
    obtain ⟨q, hq, rfl⟩ := List.mem_map.1 hp
    exact ⟨q, hq, rfl⟩
theorem yy {p q : Nat → Option (Nat × Nat)} : ∀ (l : List (Nat × Value)) (cs : Array Value), (∀ x ∈ l, p x.1 = q x.1) → Instr.fill p cs l = Instr.fill q cs l
  | [], _, _ => rfl
  | (i, v) :: l, cs, h => by
    have h0 := h (i, v) (List.mem_cons_self ..)
    have ih : ∀ cs, Instr.fill p cs l = Instr.fill q cs l := fun cs => yy l cs fun x hx => h x (List.mem_cons_of_mem _ hx)
    simp only at h0
    simp only [Instr.fill, h0, ih]
theorem a29 {P : Program} {t : TypeId} {fs : Array Field} (ht : eI P t = some (.struct fs)) (hk : allF (fun f => known P f.type) fs.toList = true) {v : Value} {i : TypeInfo} {l : List (Nat × Value)} {cs : Array Value} (hi : eT P t = some i) (hv : i.zero = some v)
    (hl : ∀ p ∈ l, p.1 < fs.size) (h : Instr.fill (fun i => some (fL fs i, bw P (gN fs i))) v.cells l = some cs) : P.built t l = some cs := by
  unfold Program.built
  have hm := zM fs.toList (a2q hk)
  simp only [dT hi, (aE ht).1, hv, hm]
  rw [← h]
  refine yy _ _ fun x hx => ?_
  obtain ⟨f, hf, h1, h2⟩ := tW (hl x hx)
  rw [h1, h2]
  simp [hf]
theorem a2l {P : Program} {t e : TypeId} {n : Nat} (ht : eI P t = some (.array n e)) (hk : known P e = true) {v : Value} {i : TypeInfo} {l : List (Nat × Value)} {cs : Array Value} (hi : eT P t = some i) (hv : i.zero = some v)
    (h : Instr.fill (fun i => some (i * bw P e, bw P e)) v.cells l = some cs) : P.built t l = some cs := by
  obtain ⟨d, hd⟩ := j9 hk
  obtain ⟨_, ie, hie, hie2⟩ := aE hd
  unfold Program.built
  simp only [dT hi, (aE ht).1, hv, hie]
  rw [dP hie2] at h
  exact h
end
def age (kd c : Nat) : Prop := kd = 0 ∨ (kd = 1 ∧ c = 1) ∨ (kd = 2 ∧ c = 2) ∨ (kd = 3 ∧ 3 ≤ c)
def Out (C : Cx) (V : Env) (g : G) (P : Pt) (k : Sm) (sk : Row) (fr : Fr) (o : Oper) (id : Nat) (hp : Hp) (R : aa) : Prop :=
  ∃ v hp' kd, P.f k sk fr hp' v = R ∧ o8 V (ov C g sk fr) o id hp v hp' kd ∧ age kd (cls C.P o.op) ∧ ∀ c, o.op ≠ .defer c
section
variable {C : Cx} {vs : Vs} {g : G} {P : Pt} {N : NK} {k : Sm} {R : aa} (ok : cW C.M) (hR : R ≠ .fail) {sk : Row} {fr : Fr} {hp : Hp} {id : Nat} {d : Option Tmp} {ty : TypeId} {pos : String} {af : Array Edge} {gd : Option (Nat × Bool)}
abbrev Cx.env (C : Cx) (vs : Vs) : Env := ⟨C.P, vs⟩
theorem dy (hR : R ≠ .fail) {b : Bool} {s : Sm} (h : (iff b s).run sk fr hp = R) : b = true ∧ s.run sk fr hp = R := by
  cases b
  · exact an hR h
  · exact ⟨rfl, h⟩
theorem iZ {o : Oper} {x : Operand} {s : Value → Sem Value} (hd : ∀ c, o.op ≠ .defer c) (hx : x ∈ o.op.operands.toList) (he : ∀ ρ, execOp ρ o = (do Pure.pure (.value (← s (ρ x))))) (h : ∃ v, P.f k sk fr hp v = R ∧ pT C.P s (ov C g sk fr x) v) : Out C (C.env vs) g P k sk fr o id hp R :=
  let ⟨v, h1, h2⟩ := h; ⟨v, hp, 0, h1, o8.pure1 hx he h2, .inl rfl, hd⟩
theorem pA {o : Oper} {x y : Operand} {s : Value → Value → Sem Value} (hd : ∀ c, o.op ≠ .defer c) (hx : x ∈ o.op.operands.toList) (hy : y ∈ o.op.operands.toList) (he : ∀ ρ, execOp ρ o = (do Pure.pure (.value (← s (ρ x) (ρ y))))) (h : ∃ v, P.f k sk fr hp v = R ∧ iq C.P s (ov C g sk fr x) (ov C g sk fr y) v) : Out C (C.env vs) g P k sk fr o id hp R :=
  let ⟨v, h1, h2⟩ := h; ⟨v, hp, 0, h1, o8.pure2 hx hy he h2, .inl rfl, hd⟩
theorem iv {o : Oper} (hd : ∀ c, o.op ≠ .defer c) (h : ∃ v, P.f k sk fr hp v = R ∧ ∀ {w : World} {F : Nat → Prop} {μ : Mu} {ρ : Operand → Value}, qw w F μ (ov C g sk fr) o.op.operands.toList ρ → ∃ r x, (execOp ρ o).run C.P w = .ok r w ∧ Nx r x ∧ ao w F μ v x) : Out C (C.env vs) g P k sk fr o id hp R :=
  let ⟨v, h1, h2⟩ := h; ⟨v, hp, 0, h1, o8.pure rfl h2, .inl rfl, hd⟩
include ok hR
theorem a3t {x : Operand} (o : Oper) (hop : o.op = .move x ∨ o.op = .assign x) (h : (agx C g P k x).run sk fr hp = R) : Out C (C.env vs) g P k sk fr o id hp R := by
  have _ := ok
  have h1 := bP hR (k := fun v => P.f k sk fr hp v) h
  refine iv (by rcases hop with e | e <;> rw [e] <;> simp) ⟨_, h1, fun hO => ⟨_, _, ?_, .inl rfl, hO x (by rcases hop with e | e <;> rw [e] <;> simp [Op.operands])⟩⟩
  rcases hop with e | e <;> simp only [execOp, e, Sem.run_pure]
theorem adu {c x y : Operand} (o : Oper) (hop : o.op = .pick c x y) (h : (agL C g P k c x y).run sk fr hp = R) : Out C (C.env vs) g P k sk fr o id hp R := by
  have _ := ok
  have h1 := bP hR (k := fun v => v.ay fun t => when t ((jI C g x).get sk fr fun v => P.f k sk fr hp v) ((jI C g y).get sk fr fun v => P.f k sk fr hp v)) h
  obtain ⟨b, hb, h2⟩ := kP hR h1
  have hd : ∀ c, o.op ≠ .defer c := by rw [hop]; simp
  have mem : ∀ z, z = c ∨ z = x ∨ z = y → z ∈ o.op.operands.toList := fun z hz => by rw [hop]; rcases hz with rfl | rfl | rfl <;> simp [Op.operands]
  rcases aM hR h2 with ⟨e, h3⟩ | ⟨e, h3⟩
  · have h4 := bP hR (k := fun v => P.f k sk fr hp v) h3
    refine iv hd ⟨_, h4, fun {w F μ ρ} hO => ⟨.value (ρ x), _, ?_, .inl rfl, hO x (mem x (.inr (.inl rfl)))⟩⟩
    have hc := hO c (mem c (.inl rfl))
    rw [hb] at hc
    simp [execOp, hop, jz hc, asBool, e]
  · have h4 := bP hR (k := fun v => P.f k sk fr hp v) h3
    refine iv hd ⟨_, h4, fun {w F μ ρ} hO => ⟨.value (ρ y), _, ?_, .inl rfl, hO y (mem y (.inr (.inr rfl)))⟩⟩
    have hc := hO c (mem c (.inl rfl))
    rw [hb] at hc
    simp [execOp, hop, jz hc, asBool, e]
theorem a9p (hN : iQ N hp id) {t : TypeId} (o : Oper) (hop : o.op = .alloc t) (hk : eL (dI C.P t) = true) (h : (ab7 C P N k t ⟨fun _ _ k => k (dI C.P t)⟩).run sk fr hp = R) : Out C (C.env vs) g P k sk fr o id hp R := by
  obtain ⟨B, hp', h1, hs, hn, H⟩ := a5F (V := C.env vs) ok hR hN (t := t) (k := fun v hp => P.f k sk fr hp v) hk h
  exact ⟨_, hp', 2, h1, o8.new (fun _ => ()) (fun ρ => by simp only [execOp, hop]) (fun _ => trivial) hs hn H, .inr (.inr (.inl ⟨rfl, by rw [hop]; rfl⟩)), by rw [hop]; simp⟩
theorem aeQ (hN : iQ N hp id) {t : TypeId} {x : Operand} (o : Oper) (hop : o.op = .box t x) (h : (ab7 C P N k t (jI C g x)).run sk fr hp = R) : Out C (C.env vs) g P k sk fr o id hp R := by
  have h1 := bP hR (k := fun a => cF C.M N a (acN C.P t) (bw C.P t) hp fun v hp => P.f k sk fr hp v) h
  obtain ⟨B, hp', h2, hs, hn, H⟩ := a4A (V := C.env vs) ok hR hN (t := t) (k := fun v hp => P.f k sk fr hp v) h1
  exact ⟨_, hp', 2, h2, o8.new (fun ρ => ρ x) (fun ρ => by simp only [execOp, hop]) (fun hO => hO x (by rw [hop]; simp [Op.operands])) hs hn H, .inr (.inr (.inl ⟨rfl, by rw [hop]; rfl⟩)), by rw [hop]; simp⟩
end
section
variable {C : Cx} {vs : Vs} {g : G} {P : Pt} {N : NK} {k : Sm} {R : aa} (ok : cW C.M) (hR : R ≠ .fail) {sk : Row} {fr : Fr} {hp : Hp} {id : Nat}
theorem a6y (hR : R ≠ .fail) {v : AV} {z sz : Nat} {q : AV → Hp → aa} {M : Mem} (h : cF M N v z sz hp q = R) : eL v = true := by
  cases hv : eL v with
  | true => rfl
  | false =>
    cases v with
    | x gg t a b c =>
      cases gg with
      | zero =>
        rcases aM hR h with ⟨_, h1⟩ | ⟨_, h1⟩
        · exact an hR h1
        · exact an hR h1
      | succ n => cases hv
    | _ => cases hv
include ok hR
theorem a5E (hN : iQ N hp id) {t : TypeId} (o : Oper) (hop : o.op = .alloc t) (h : (ab7 C P N k t ⟨fun _ _ k => k (dI C.P t)⟩).run sk fr hp = R) : Out C (C.env vs) g P k sk fr o id hp R :=
  a9p ok hR hN o hop (a6y hR (M := C.M) (hp := hp) (N := N) (v := dI C.P t) (z := acN C.P t) (sz := bw C.P t) (q := fun v hp => P.f k sk fr hp v) h) h
theorem a5T {t : TypeId} {ps : Array (Nat × Operand)} (o : Oper) (hop : o.op = .build t ps) (h : (a1F C g P k t ps).run sk fr hp = R) : Out C (C.env vs) g P k sk fr o id hp R := by
  have hd : ∀ c, o.op ≠ .defer c := by rw [hop]; simp
  have mem : ∀ p ∈ ps.toList, p.2 ∈ o.op.operands.toList := fun p hp => by
    rw [hop]
    show p.2 ∈ ((ps.toList.map (·.2)).toArray).toList
    rw [List.toList_toArray]
    exact List.mem_map.2 ⟨p, hp, rfl⟩
  have fin : (∃ v, P.f k sk fr hp v = R ∧ ∀ {w : World} {F : Nat → Prop} {μ : Mu} {ρ : Operand → Value}, (∀ p ∈ ps.toList, ao w F μ (ov C g sk fr p.2) (ρ p.2)) → ∃ r, (Instr.build t (ps.map fun (i, x) => (i, ρ x))).run C.P w = .ok r w ∧ ao w F μ v r) → Out C (C.env vs) g P k sk fr o id hp R := fun ⟨v, h1, h2⟩ => by
    refine iv hd ⟨v, h1, fun {w F μ ρ} hO => ?_⟩
    obtain ⟨r, e1, e2⟩ := h2 (w := w) (F := F) (μ := μ) (ρ := ρ) fun p hp => hO _ (mem p hp)
    exact ⟨_, r, by simp only [execOp, hop]; exact ek e1, .inl rfl, e2⟩
  unfold a1F at h
  split at h
  · rename_i fs hu
    obtain ⟨hb, h1⟩ := dy hR h
    rw [cI, cI, cI] at hb
    obtain ⟨hz, hk, hP, hfit⟩ := hb
    exact fin (zL (k := fun v => P.f k sk fr hp v) ok hR hz hfit (fun v i l cs hi hv hf hl => a29 hu hk hi hv (fun p hp => by
      obtain ⟨q, hq, e⟩ := hl p hp
      rw [e]; exact a2R hP q hq) hf) h1)
  · rename_i n e hu
    obtain ⟨hb, h1⟩ := dy hR h
    rw [cI, cI] at hb
    obtain ⟨hz, hk, hfit⟩ := hb
    exact fin (zL (k := fun v => P.f k sk fr hp v) ok hR hz hfit (fun v i l cs hi hv hf hl => a2l hu hk hi hv hf) h1)
  · exact an hR h
theorem a1Y {Q : Program} {t e : TypeId} (h : slT Q t = some e) : eI Q t = some (.slice e) := by
  have _ := ok
  have _ := hR
  unfold slT at h
  split at h
  · rename_i e' hu; cases h; exact hu
  · cases h
theorem vc (hN : iQ N hp id) {t : TypeId} {len : Nat} {ps : Array (Nat × Operand)} (o : Oper) (hop : o.op = .buildSlice t len ps) (h : (gW C g P N k t len ps).run sk fr hp = R) : Out C (C.env vs) g P k sk fr o id hp R := by
  have mem : ∀ p ∈ ps.toList, p.2 ∈ o.op.operands.toList := fun p hp => by
    rw [hop]
    show p.2 ∈ ((ps.toList.map (·.2)).toArray).toList
    rw [List.toList_toArray]
    exact List.mem_map.2 ⟨p, hp, rfl⟩
  unfold gW at h
  split at h
  · exact an hR h
  · rename_i e hs
    obtain ⟨hb, h1⟩ := dy hR h
    rw [cI, cI, cI, bA, bA] at hb
    obtain ⟨hz, hzk, hle, hfit⟩ := hb
    obtain ⟨B, hp', h2, hset, hn, H⟩ := vR (V := C.env vs) ok hR hN (k := fun v hp => P.f k sk fr hp v) (a1Y ok hR hs) rfl hz hzk hle hfit h1
    exact ⟨_, hp', 2, h2, o8.new (fun ρ => ρ) (fun ρ => by simp only [execOp, hop]) (fun hO p hp => hO _ (mem p hp)) hset hn H, .inr (.inr (.inl ⟨rfl, by rw [hop]; rfl⟩)), by rw [hop]; simp⟩
theorem a8T {t : TypeId} {x : Operand} (o : Oper) (hop : o.op = .load t x) (h : (a2g C g P k t x).run sk fr hp = R) : Out C (C.env vs) g P k sk fr o id hp R := by
  unfold a2g at h
  cases hk : known C.P t with
  | false => rw [hk] at h; exact an hR h
  | true =>
    rw [hk] at h
    have h1 := bP hR (k := fun a => aq C.M (isAgg C.P t) (bw C.P t) a hp fun v => P.f k sk fr hp v) h
    obtain ⟨v, h2, hl, H⟩ := zq (V := C.env vs) ok hR (j9 hk) h1
    exact ⟨v, hp, 1, h2, o8.aga (by rw [hop]; rfl) (by rw [hop]; simp [Op.operands]) (fun ρ => by simp only [execOp, hop]) hl H, .inr (.inl ⟨rfl, by rw [hop]; rfl⟩), by rw [hop]; simp⟩
theorem a5l {t : TypeId} {x y : Operand} (o : Oper) (hop : o.op = .store t x y) (h : (a5G C g P k t x y).run sk fr hp = R) : Out C (C.env vs) g P k sk fr o id hp R := by
  have hd : ∀ c, o.op ≠ .defer c := by rw [hop]; simp
  obtain ⟨hz, h0⟩ := dy hR h
  rw [bA] at hz
  have h1 := bP hR (k := fun a => (jI C g y).get sk fr fun v => aH C.M (bw C.P t) a v hp fun hp => P.f k sk fr hp dw) h0
  have h2 := bP hR (k := fun v => aH C.M (bw C.P t) (ov C g sk fr x) v hp fun hp => P.f k sk fr hp dw) h1
  obtain ⟨hp', h3, H⟩ := a5M (V := C.env vs) ok hR hz h2
  exact ⟨_, hp', 3, h3, o8.does hd fun hO _ hH => rj.ofU (by simp only [execOp, hop]) (H (hO x (by rw [hop]; simp [Op.operands])) (hO y (by rw [hop]; simp [Op.operands])) hH), .inr (.inr (.inr ⟨rfl, by rw [hop]; exact Nat.le_refl _⟩)), hd⟩
theorem aaC {x : Operand} (o : Oper) (hop : o.op = .nilCheck x) (h : (a0p C g P k x).run sk fr hp = R) : Out C (C.env vs) g P k sk fr o id hp R := by
  have _ := ok
  have h1 := bP hR (k := fun v => v.on (fun _ _ => .fail) (fun _ => .fail) (fun _ _ => .fail) (fun _ _ => P.f k sk fr hp v) (fun _ _ _ _ => .fail) (fun _ _ _ _ => .fail) (fun _ _ => .fail) (fun _ _ => .fail) (fun g _ _ _ _ => ar (Nat.beq g 1 || Nat.beq g 3 || Nat.beq g 5 || Nat.beq g 12) (P.f k sk fr hp v))) h
  obtain ⟨h2, H⟩ := afm hR (k := fun v => P.f k sk fr hp v) h1
  refine iv (by rw [hop]; simp) ⟨_, h2, fun {w F μ ρ} hO => ?_⟩
  have hx := hO x (by rw [hop]; simp [Op.operands])
  refine ⟨.value (ρ x), _, ?_, .inl rfl, hx⟩
  simp only [execOp, hop]
  rcases H hx with ⟨a, e⟩ | ⟨f, fs, cs, e⟩ | ⟨l, e⟩ | ⟨t, v, e⟩ <;> rw [e] <;> rfl
theorem a7D {x : Operand} {f : AV → (AV → aa) → aa} (h : (c1 C g P k x f).run sk fr hp = R) : f (ov C g sk fr x) (fun v => P.f k sk fr hp v) = R := have _ := ok; bP hR (k := fun a => f a fun v => P.f k sk fr hp v) h
theorem a9n {op : BinOp} {t u : TypeId} {x y : Operand} (o : Oper) (hop : o.op = .binOp op t x y u) (h : (a2A C g P k op t x y).run sk fr hp = R) : Out C (C.env vs) g P k sk fr o id hp R := by
  have _ := ok
  unfold a2A at h
  have h1 := bP hR (k := fun a => (jI C g y).get sk fr fun b => (match eI C.P t with
    | some (.int ik) => ae op (kc ik)
    | some .string => cx op
    | _ => wi (oX C.P t) op : BK).f a b fun v => P.f k sk fr hp v) h
  have h2 := bP hR (k := fun b => (match eI C.P t with
    | some (.int ik) => ae op (kc ik)
    | some .string => cx op
    | _ => wi (oX C.P t) op : BK).f (ov C g sk fr x) b fun v => P.f k sk fr hp v) h1
  obtain ⟨v, h3, H⟩ := ag1 hR (x := x) (y := y) h2
  exact pA (s := a0Z op t x y) (by rw [hop]; simp) (by rw [hop]; simp [Op.operands]) (by rw [hop]; simp [Op.operands]) (fun ρ => by simp only [execOp, hop]; rfl) ⟨v, h3, H⟩
theorem aam {op : BinOp} {t u : TypeId} {x y : Operand} (o : Oper) (hop : o.op = .binOp op t x y u) (h : (cBin C g P k op t x y).run sk fr hp = R) : Out C (C.env vs) g P k sk fr o id hp R := by
  have e : cBin C g P k op t x y = if bp (isIface C.P t) (a22 y) = true then a7B C g P k op x else a2A C g P k op t x y := eF _ _ _
  rw [e] at h
  split at h
  · rename_i hc
    rw [cI] at hc
    have fin : ∀ (q : Bool → Bool), (op = .eql ∧ q = (fun b => b) ∨ op = .neq ∧ q = (!·)) → (∃ b, P.f k sk fr hp (.bool (q b)) = R ∧ ∀ {w : World} {F : Nat → Prop} {μ : Mu} {u : Value}, ao w F μ (ov C g sk fr x) u → dr 4 b u) → Out C (C.env vs) g P k sk fr o id hp R := fun q hq ⟨b, h1, h2⟩ => by
      refine pA (x := x) (y := y) (s := a0Z op t x y) (by rw [hop]; simp) (by rw [hop]; simp [Op.operands]) (by rw [hop]; simp [Op.operands]) (fun ρ => by simp only [execOp, hop]; rfl) ⟨_, h1, fun {w F μ u v} ha hb => ?_⟩
      obtain ⟨ey, e1, e2⟩ := afG (x := x) hc.1 hc.2 (h2 ha) w
      have hv : v = .nilIface := by
        have hb' : ao w F μ (.x 11 .lf 0 0 0) v := by rw [ey] at hb; exact hb
        cases hb'; rfl
      subst hv
      rcases hq with ⟨rfl, rfl⟩ | ⟨rfl, rfl⟩
      · exact ⟨_, e1, .bool _⟩
      · exact ⟨_, e2, .bool _⟩
    unfold a7B at h
    split at h
    · obtain ⟨b, h1, h2⟩ := sD hR (by omega) (a7D ok hR h)
      exact fin (fun b => b) (.inl ⟨rfl, rfl⟩) ⟨b, h1, h2⟩
    · obtain ⟨b, h1, h2⟩ := sD hR (by omega) (a7D ok hR h)
      exact fin (!·) (.inr ⟨rfl, rfl⟩) ⟨b, by rw [← fA]; exact h1, h2⟩
    · exact an hR h
  · exact a9n ok hR o hop h
theorem afL {op : UnOp} {t : TypeId} {x : Operand} (o : Oper) (hop : o.op = .unOp op t x) (h : (cUn C g P k op x).run sk fr hp = R) : Out C (C.env vs) g P k sk fr o id hp R := by
  have _ := ok
  have fin : ∀ (f : AV → (AV → aa) → aa), (c1 C g P k x f).run sk fr hp = R → (∀ {a : AV} {q : AV → aa}, f a q = R → ∃ v, q v = R ∧ pT C.P (Op.unary op) a v) → Out C (C.env vs) g P k sk fr o id hp R := fun f h H =>
    iZ (s := Op.unary op) (by rw [hop]; simp) (by rw [hop]; simp [Op.operands]) (fun ρ => by simp only [execOp, hop]) (H (bP hR (k := fun a => f a fun v => P.f k sk fr hp v) h))
  cases op with
  | neg => exact fin (fun a k => a.bV fun i n => bu i (Nat.mod (Nat.sub (md i) n) (md i)) k) h fun h => af4 hR h
  | xor => exact fin (fun a k => a.bV fun i n => bu i (Nat.sub (Nat.sub (md i) 1) n) k) h fun h => afH hR h
  | not => exact fin (fun a k => a.ay fun b => k (.bool (dv b))) h fun h => ae4 hR h
  | _ => exact an hR h
theorem xz {t : TypeId} {x : Operand} {f : Nat} (o : Oper) (hop : o.op = .fieldAddr t x f) (h : (nB C g P k t x f).run sk fr hp = R) : Out C (C.env vs) g P k sk fr o id hp R := by
  have _ := ok
  unfold nB at h
  split at h
  · rename_i fs hu
    obtain ⟨hb, h0⟩ := dy hR h
    rw [cI, bA, bA] at hb
    have h1 := bP hR (k := fun a => fieldAddr (fL fs f) a fun v => P.f k sk fr hp v) h0
    exact iZ (s := fun u => Instr.fieldAt t u f) (by rw [hop]; simp) (by rw [hop]; simp [Op.operands]) (fun ρ => by simp only [execOp, hop]) (yI hR hu hb.1 hb.2 h1)
  · exact an hR h
theorem a4M {t : TypeId} {x : Operand} {f : Nat} (o : Oper) (hop : o.op = .field t x f) (h : (a0R C g P k t x f).run sk fr hp = R) : Out C (C.env vs) g P k sk fr o id hp R := by
  have _ := ok
  unfold a0R at h
  split at h
  · rename_i fs hu
    obtain ⟨hb, h0⟩ := dy hR h
    rw [cI, bA] at hb
    have h1 := bP hR (k := fun a => uQ (isAgg C.P (gN fs f)) (bw C.P (gN fs f)) (fL fs f) a fun v => P.f k sk fr hp v) h0
    exact iZ (s := fun u => Instr.field t u f) (by rw [hop]; simp) (by rw [hop]; simp [Op.operands]) (fun ρ => by simp only [execOp, hop]) (a9m hR hu hb.1 hb.2 h1)
  · exact an hR h
theorem a1p {x y : Operand} {f : AV → AV → (AV → aa) → aa} (h : (c2 C g P k x y f).run sk fr hp = R) : f (ov C g sk fr x) (ov C g sk fr y) (fun v => P.f k sk fr hp v) = R := by
  have _ := ok
  have h1 := bP hR (k := fun a => (jI C g y).get sk fr fun b => f a b fun v => P.f k sk fr hp v) h
  exact bP hR (k := fun b => f (ov C g sk fr x) b fun v => P.f k sk fr hp v) h1
theorem a7x {x y : Operand} {f : AV → AV → Hp → (AV → Hp → aa) → aa} (h : (c2h C g P k x y f).run sk fr hp = R) : f (ov C g sk fr x) (ov C g sk fr y) hp (fun v hp => P.f k sk fr hp v) = R := by
  have _ := ok
  have h1 := bP hR (k := fun a => (jI C g y).get sk fr fun b => f a b hp fun v hp => P.f k sk fr hp v) h
  exact bP hR (k := fun b => f (ov C g sk fr x) b hp fun v hp => P.f k sk fr hp v) h1
theorem wA {t : TypeId} {x i : Operand} (o : Oper) (hop : o.op = .indexAddr t x i) (h : (nK C g P k t x i).run sk fr hp = R) : Out C (C.env vs) g P k sk fr o id hp R := by
  have fin : ∀ {v : AV}, _ → _ → _ := fun {v} h H => pA (C := C) (vs := vs) (g := g) (P := P) (k := k) (R := R) (sk := sk) (fr := fr) (hp := hp) (id := id) (o := o) (x := x) (y := i) (s := Instr.indexAt t) (by rw [hop]; simp) (by rw [hop]; simp [Op.operands]) (by rw [hop]; simp [Op.operands]) (fun ρ => by simp only [execOp, hop]) ⟨v, h, H⟩
  unfold nK at h
  split at h
  · rename_i n e hu
    obtain ⟨hb, h0⟩ := dy hR h
    rw [bA] at hb
    obtain ⟨v, h1, H⟩ := a1h hR hu rfl hb (a1p ok hR h0)
    exact fin h1 H
  · rename_i e hu
    obtain ⟨hb, h0⟩ := dy hR h
    rw [bA] at hb
    obtain ⟨v, h1, H⟩ := z6 hR hu rfl hb (a1p ok hR h0)
    exact fin h1 H
  · exact an hR h
theorem a5q {t : TypeId} {x i : Operand} (o : Oper) (hop : o.op = .index t x i) (h : (a0E C g P k t x i).run sk fr hp = R) : Out C (C.env vs) g P k sk fr o id hp R := by
  have fin : ∀ {v : AV}, _ → _ → _ := fun {v} h H => pA (C := C) (vs := vs) (g := g) (P := P) (k := k) (R := R) (sk := sk) (fr := fr) (hp := hp) (id := id) (o := o) (x := x) (y := i) (s := Instr.index t) (by rw [hop]; simp) (by rw [hop]; simp [Op.operands]) (by rw [hop]; simp [Op.operands]) (fun ρ => by simp only [execOp, hop]) ⟨v, h, H⟩
  unfold a0E at h
  split at h
  · rename_i n e hu
    obtain ⟨hb, h0⟩ := dy hR h
    obtain ⟨v, h1, H⟩ := a9x hR hu hb (a1p ok hR h0)
    exact fin h1 H
  · rename_i hu
    obtain ⟨v, h1, H⟩ := a0J hR hu (a1p ok hR h)
    exact fin h1 H
  · exact an hR h
theorem a1I {x : Operand} {i : Nat} (o : Oper) (hop : o.op = .extract x i) (h : (a36 C g P k x i).run sk fr hp = R) : Out C (C.env vs) g P k sk fr o id hp R := by
  have _ := ok
  have h1 := bP hR (k := fun v => v.wx fun t _ => (a4b i).get t fr fun v => P.f k sk fr hp v) h
  exact iZ (s := fun u => Instr.extract u i) (by rw [hop]; simp) (by rw [hop]; simp [Op.operands]) (fun ρ => by simp only [execOp, hop]) (a4d hR h1)
theorem a8V {f : FuncId} {a b : Array Operand} (o : Oper) (hop : o.op = .makeFunc (.func f) a b) (h : (agn C g P k f a b).run sk fr hp = R) : Out C (C.env vs) g P k sk fr o id hp R := by
  have _ := ok
  obtain ⟨r, h1, hl, hr⟩ := a5N hR (l := a.toList ++ b.toList) (k := fun l => P.f k sk fr hp (.x 3 l f a.size b.size)) h
  refine iv (by rw [hop]; simp) ⟨_, h1, fun {w F μ ρ} hO => ⟨_, _, ?_, .inl rfl, aay (ρ := ρ) hl hr fun x hx => hO x (by rw [hop]; simp only [Op.operands, Array.toList_append]; exact hx)⟩⟩
  simp only [execOp, hop]
  rfl
end
section
variable {C : Cx} {vs : Vs} {g : G} {P : Pt} {N : NK} {k : Sm} {R : aa} (ok : cW C.M) (hR : R ≠ .fail) {sk : Row} {fr : Fr} {hp : Hp} {id : Nat}
noncomputable def oo (C : Cx) (g : G) (sk : Row) (fr : Fr) (x : Option Operand) : Option AV := x.map (ov C g sk fr)
theorem pC {w : World} {F : Nat → Prop} {μ : Mu} {ρ : Operand → Value} {l : List Operand} (x : Option Operand) (h : qw w F μ (ov C g sk fr) l ρ) (hm : ∀ y, x = some y → y ∈ l) : dz w F μ (oo C g sk fr x) (x.map ρ) := by
  cases x with
  | none => trivial
  | some y => exact h y (hm y rfl)
include hR
theorem jA {x : Option Operand} {q : Option AV → aa} (h : (nF C g x).f sk fr q = R) : q (oo C g sk fr x) = R := by
  cases x with
  | none => exact h
  | some y => exact bP hR (k := fun v => q (some v)) h
include ok
theorem a1A {x : Operand} {f : AV → Hp → (AV → Hp → aa) → aa} (h : (c1h C g P k x f).run sk fr hp = R) : f (ov C g sk fr x) hp (fun v hp => P.f k sk fr hp v) = R := have _ := ok; 
  bP hR (k := fun a => f a hp fun v hp => P.f k sk fr hp v) h
theorem aas {x : Operand} {f : AV → (AV → aa) → aa} (h : (c1 C g P k x f).run sk fr hp = R) : f (ov C g sk fr x) (fun v => P.f k sk fr hp v) = R := have _ := ok; 
  bP hR (k := fun a => f a fun v => P.f k sk fr hp v) h
theorem a5z {t : TypeId} {x : Operand} {lo hi mx : Option Operand} (o : Oper) (hop : o.op = .slice t x lo hi mx) (h : (a0V C g P k t x lo hi mx).run sk fr hp = R) : Out C (C.env vs) g P k sk fr o id hp R := by
  have hd : ∀ c, o.op ≠ .defer c := by rw [hop]; simp
  have mx0 : x ∈ o.op.operands.toList := by rw [hop]; simp [Op.operands]
  have ml : ∀ y, lo = some y → y ∈ o.op.operands.toList := fun y e => by rw [hop]; subst e; simp [Op.operands]
  have mh : ∀ y, hi = some y → y ∈ o.op.operands.toList := fun y e => by rw [hop]; subst e; simp [Op.operands]
  have mm : ∀ y, mx = some y → y ∈ o.op.operands.toList := fun y e => by rw [hop]; subst e; simp [Op.operands]
  have he : ∀ ρ, execOp ρ o = (do Pure.pure (.value (← Instr.sliceAt t (ρ x) (lo.map ρ) (hi.map ρ) (mx.map ρ)))) := fun ρ => by simp only [execOp, hop]
  have pure : (∃ v, P.f k sk fr hp v = R ∧ a6J C.P (Instr.sliceAt t) (ov C g sk fr x) (oo C g sk fr lo) (oo C g sk fr hi) (oo C g sk fr mx) v) → Out C (C.env vs) g P k sk fr o id hp R := fun ⟨v, h1, H⟩ => iv hd ⟨v, h1, fun {w F μ ρ} hO => by
    obtain ⟨r, e1, e2⟩ := H (hO x mx0) (pC lo hO ml) (pC hi hO mh) (pC mx hO mm)
    exact ⟨_, r, by rw [he]; exact ek e1, .inl rfl, e2⟩⟩
  unfold a0V at h
  simp only at h
  split at h
  · rename_i n e hu
    obtain ⟨hb, h0⟩ := dy hR h
    rw [bA] at hb
    let body : AV → Option AV → Option AV → Option AV → aa := fun v l h m => v.pX (fun b o => hp.use C.M b (Nat.add o (Nat.mul n (bw C.P e))) fun _ _ _ _ _ => eS (bw C.P e) (.ms b o n (bw C.P e)) l h m fun v => P.f k sk fr hp v)
      (fun t o c y => ar (Nat.beq y (bw C.P e)) (ar (Nat.beq (Nat.mod o (bw C.P e)) 0) (ar (Nat.ble (Nat.mul n (bw C.P e)) c) (eS (bw C.P e) (.vs t (Nat.div o (bw C.P e)) n (bw C.P e)) l h m fun v => P.f k sk fr hp v))))
    have h1 := bP hR (k := fun v => (nF C g lo).f sk fr fun l => (nF C g hi).f sk fr fun h => (nF C g mx).f sk fr fun m => body v l h m) h0
    have h2 := jA hR (q := fun l => (nF C g hi).f sk fr fun h => (nF C g mx).f sk fr fun m => body (ov C g sk fr x) l h m) h1
    have h3 := jA hR (q := fun h => (nF C g mx).f sk fr fun m => body (ov C g sk fr x) (oo C g sk fr lo) h m) h2
    have h4 := jA hR (q := fun m => body (ov C g sk fr x) (oo C g sk fr lo) (oo C g sk fr hi) m) h3
    rcases kp hR h4 with ⟨b, o', hx, h5⟩ | ⟨tt, o', c, y, hx, h5⟩
    · obtain ⟨v, h6, hl, H⟩ := a1K (V := C.env vs) ok hR hu rfl hb h5
      refine ⟨v, hp, 1, h6, .read x rfl (by rw [hop]; rfl) mx0 (by rw [hx]; exact hl) fun {w F μ ρ} hO hro => ?_, .inr (.inl ⟨rfl, by rw [hop]; simp only [cls, hu]⟩), hd⟩
      rw [hx] at hro
      obtain ⟨r, e1, e2⟩ := H (by rw [← hx]; exact hO x mx0) (pC lo hO ml) (pC hi hO mh) (pC mx hO mm) hro
      exact ⟨_, r, by rw [he]; exact ek e1, .inl rfl, e2⟩
    · obtain ⟨v, h6, H⟩ := zd (V := C.env vs) hR hu rfl hb h5
      exact pure ⟨v, h6, by rw [hx]; exact H⟩
  · rename_i e hu
    obtain ⟨hb, h0⟩ := dy hR h
    rw [bA] at hb
    let body : AV → Option AV → Option AV → Option AV → aa := fun v l h m => eS (bw C.P e) v l h m fun v => P.f k sk fr hp v
    have h1 := bP hR (k := fun v => (nF C g lo).f sk fr fun l => (nF C g hi).f sk fr fun h => (nF C g mx).f sk fr fun m => body v l h m) h0
    have h2 := jA hR (q := fun l => (nF C g hi).f sk fr fun h => (nF C g mx).f sk fr fun m => body (ov C g sk fr x) l h m) h1
    have h3 := jA hR (q := fun h => (nF C g mx).f sk fr fun m => body (ov C g sk fr x) (oo C g sk fr lo) h m) h2
    have h4 := jA hR (q := fun m => body (ov C g sk fr x) (oo C g sk fr lo) (oo C g sk fr hi) m) h3
    exact pure (a4J hR hu rfl hb h4)
  · rename_i hu
    obtain ⟨hb, h0⟩ := dy hR h
    cases mx with
    | some y => cases hb
    | none =>
      let body : AV → Option AV → Option AV → aa := fun v l h => dj v l h fun v => P.f k sk fr hp v
      have h1 := bP hR (k := fun v => (nF C g lo).f sk fr fun l => (nF C g hi).f sk fr fun h => body v l h) h0
      have h2 := jA hR (q := fun l => (nF C g hi).f sk fr fun h => body (ov C g sk fr x) l h) h1
      have h3 := jA hR (q := fun h => body (ov C g sk fr x) (oo C g sk fr lo) h) h2
      exact pure (a5B hR hu h3)
  · exact an hR h
theorem a9z (hN : iQ N hp id) {s d : TypeId} {x : Operand} (o : Oper) (hop : o.op = .convert s d x) (h : (a6E C g P N k s d x).run sk fr hp = R) : Out C (C.env vs) g P k sk fr o id hp R := by
  have hd : ∀ c, o.op ≠ .defer c := by rw [hop]; simp
  have hx : x ∈ o.op.operands.toList := by rw [hop]; simp [Op.operands]
  have he : ∀ ρ, execOp ρ o = (do Pure.pure (.value (← convert s d (ρ x)))) := fun ρ => by simp only [execOp, hop]
  unfold a6E at h
  split at h
  · rename_i k1 k2 h1 h2
    exact iZ hd hx he (ae1 hR h1 h2 (aas ok hR h))
  · rename_i h1 h2
    obtain ⟨s', n, hs, h4⟩ := dO hR (aas ok hR h)
    refine iZ (s := convert s d) hd hx he ⟨_, h4, fun {w F μ u} ha => ?_⟩
    rw [hs] at ha
    obtain ⟨B, rfl, _⟩ := iF ha
    exact ⟨.string B, by simp [convert, run_underlying (aE h1).1, run_underlying (aE h2).1], ha⟩
  · rename_i e h1 h2
    obtain ⟨he8, h3⟩ := dy hR h
    obtain ⟨B, v, hp', h4, hs, hn, H⟩ := a1b (V := C.env vs) ok hR hN h1 he8 h2 (k := fun v hp => P.f k sk fr hp v) (a1A ok hR h3)
    exact ⟨v, hp', 2, h4, o8.new (fun ρ => ρ x) he (fun hO => hO x hx) hs hn H, .inr (.inr (.inl ⟨rfl, by rw [hop]; simp only [cls, h1, h2]⟩)), hd⟩
  · rename_i e h1 h2
    obtain ⟨he8, h3⟩ := dy hR h
    have h4 := a1A ok hR h3
    have hcls : cls C.P o.op = 1 := by rw [hop]; simp only [cls, h1, h2]
    have fin : ((∃ b o n z, ov C g sk fr x = .ms b o n z) ∨ ∃ t o n z, ov C g sk fr x = .vs t o n z) → (my C.M 1 (ov C g sk fr x) hp fun t o n _ => (pack C.M n).f t o fun s => P.f k sk fr hp (.str s n)) = R → Out C (C.env vs) g P k sk fr o id hp R := fun hsl h5 => by
      obtain ⟨v, h6, hl, H⟩ := a1H (V := C.env vs) ok hR h1 he8 h2 hsl (k := fun v => P.f k sk fr hp v) h5
      exact ⟨v, hp, 1, h6, o8.aga (by rw [hop]; rfl) hx he hl H, .inr (.inl ⟨rfl, hcls⟩), hd⟩
    rcases gV hR h4 with ⟨b, o', n, y, hv, h5⟩ | ⟨tt, o', n, y, hv, h5⟩ | ⟨i, tt, a', b', c, hv, h5⟩ | ⟨s', n, hv, h5⟩
    · exact fin (.inl ⟨b, o', n, y, hv⟩) h5
    · exact fin (.inr ⟨tt, o', n, y, hv⟩) h5
    · obtain ⟨hg, h6⟩ := ax hR h5
      rw [Bool.or_eq_true, aF, aF] at hg
      refine iZ (s := convert s d) hd hx he ⟨_, h6, fun {w F μ u} ha => ?_⟩
      rw [hv] at ha
      have hempty : ao w F μ (.str 0 0) (.string ByteArray.empty) := rR rfl rfl
      rcases hg with rfl | rfl
      · cases ha
        exact ⟨_, by simp [convert, run_underlying (aE h1).1, run_underlying (aE h2).1, run_underlying (oO he8), Conv.bytesToString], hempty⟩
      · cases ha
        exact ⟨_, by simp [convert, run_underlying (aE h1).1, run_underlying (aE h2).1, run_underlying (oO he8), Conv.bytesToString]; rfl, hempty⟩
    · exact an hR h5
  · rename_i e' e h1 h2
    obtain ⟨hb, h3⟩ := dy hR h
    rw [cI, aF] at hb
    obtain ⟨rfl, he8⟩ := hb
    obtain ⟨h4, H⟩ := aad (V := C.env vs) ok hR h2 he8 (k := fun v hp => P.f k sk fr hp v) (a1A ok hR h3)
    refine ⟨_, hp, 3, h4, o8.does hd fun {w F μ ρ} hO _ hH => rj.of (he ρ) (H (hO x hx) hH) fun w' F' μ' r h => ?_, .inr (.inr (.inr ⟨rfl, by rw [hop]; simp only [cls, h1]; decide⟩)), hd⟩
    obtain ⟨q1, rfl⟩ := h
    exact ⟨q1, ki.refl _ _⟩
  · exact an hR h
omit ok hR in
theorem tD {w : World} {F : Nat → Prop} {μ : Mu} {n : Nat} (h : n ≤ 9223372036854775807) : ao w F μ (.int 3 n) (goInt (n : Nat)) := by
  have := cX (w := w) (F := F) (μ := μ) (i := 3) (n := n) (by show n < 18446744073709551616; omega)
  rw [jl 3 n (by show n < 18446744073709551616; omega) (.inr (by show n < 9223372036854775808; omega))] at this
  exact this
theorem a1V (hN : iQ N hp id) {b : Builtin} {ts : Array TypeId} {as : Array Operand} (o : Oper) (hop : o.op = .call ⟨.builtin b, as, ts⟩) (h : (rn C g P N k b ts.toList as.toList).run sk fr hp = R) : Out C (C.env vs) g P k sk fr o id hp R := by
  have hd : ∀ c, o.op ≠ .defer c := by rw [hop]; simp
  have mem : ∀ x ∈ as.toList, x ∈ o.op.operands.toList := fun x hx => by rw [hop]; simpa [Op.operands, Call.operands] using hx
  have h0 : ∀ {t r}, ts.toList = t :: r → ts[0]? = some t := fun e => by rw [← Array.getElem?_toList, e]; rfl
  have he0 : ∀ ρ, execOp ρ o = builtin b ts o.type (as.map fun | .const _ => true | _ => false) (as.map ρ) := fun ρ => by
    simp only [execOp, hop]; rfl
  unfold rn at h
  split at h
  · -- len
    rename_i t r x hts has
    have hmap : ∀ ρ : Operand → Value, as.map ρ = #[ρ x] := fun ρ => by rw [← Array.toList_inj, Array.toList_map, has]; rfl
    have he : ∀ ρ, execOp ρ o = (do Pure.pure (.value (← Builtin.len_ ts o.type #[ρ x]))) := fun ρ => by rw [he0, hmap]; rfl
    have hx := mem x (by rw [has]; exact List.mem_cons_self ..)
    have fin : ∀ q, (q = 0 ∧ eI C.P t = some .string) ∨ (q = 1 ∧ ∃ e, eI C.P t = some (.slice e)) ∨ (q = 2 ∧ ∃ a b, eI C.P t = some (.map a b)) → (cLen C g P k q x).run sk fr hp = R → Out C (C.env vs) g P k sk fr o id hp R := fun q hq h => by
      have h1 := bP hR (k := fun a => cz C.M q a hp fun n => ar (Nat.ble n 9223372036854775807) (P.f k sk fr hp (.int 3 n))) h
      obtain ⟨n, h2, hl, H⟩ := abL hR ok (V := C.env vs) (ts := ts) (ty := o.type) (h0 hts) hq h1
      obtain ⟨hn, h3⟩ := ax hR h2
      rw [bA] at hn
      by_cases e2 : q = 2
      · obtain ⟨a, b, hm⟩ : ∃ a b, eI C.P t = some (.map a b) := by
          rcases hq with ⟨h, _⟩ | ⟨h, _⟩ | ⟨_, h⟩
          · omega
          · omega
          · exact h
        have has0 : as[0]? = some x := by rw [← Array.getElem?_toList, has]; rfl
        have hts0 : ts.getD 0 0 = t := by rw [Array.getD_eq_getD_getElem?, h0 hts]; rfl
        exact ⟨_, hp, 1, h3, .read x rfl (by rw [hop]; exact has0) hx (hl e2) fun {w F μ ρ} hO hro => ⟨_, _, by rw [he]; exact ek (H (hO x hx) fun _ => hro), .inl rfl, tD hn⟩, .inr (.inl ⟨rfl, by rw [hop]; simp only [cls, hts0, hm]⟩), hd⟩
      · exact iv hd ⟨_, h3, fun {w F μ ρ} hO => ⟨_, _, by rw [he]; exact ek (H (hO x hx) fun e => absurd e e2), .inl rfl, tD hn⟩⟩
    split at h
    · rename_i n e hu
      obtain ⟨hn, h1⟩ := dy hR h
      rw [bA] at hn
      exact iv hd ⟨_, h1, fun {w F μ ρ} hO => ⟨_, goInt (n : Nat), by rw [he]; exact ek (by simp [Builtin.len_, h0 hts, run_underlying (aE hu).1]), .inl rfl, tD hn⟩⟩
    · rename_i hu; exact fin 0 (.inl ⟨rfl, hu⟩) h
    · rename_i e hu; exact fin 1 (.inr (.inl ⟨rfl, e, hu⟩)) h
    · rename_i a b hu; exact fin 2 (.inr (.inr ⟨rfl, a, b, hu⟩)) h
    · exact an hR h
  · -- append
    rename_i t u x y hts has
    have hmap : ∀ ρ : Operand → Value, as.map ρ = #[ρ x, ρ y] := fun ρ => by rw [← Array.toList_inj, Array.toList_map, has]; rfl
    have htl : ts = #[t, u] := by rw [← Array.toList_inj, hts]
    have he : ∀ ρ, execOp ρ o = (do Pure.pure (.value (← Builtin.append_ #[t, u] o.type #[ρ x, ρ y]))) := fun ρ => by rw [he0, hmap, htl]; rfl
    have hx := mem x (by rw [has]; exact List.mem_cons_self ..)
    have hy := mem y (by rw [has]; exact List.mem_cons_of_mem _ (List.mem_cons_self ..))
    split at h
    · rename_i e hs
      obtain ⟨hb, h1⟩ := dy hR h
      rw [cI, cI, bA, bA] at hb
      obtain ⟨hby, hz, hzk⟩ := hb
      split at h1
      · rename_i kk hu
        obtain ⟨B, v, hp', h2, hs2, hid2, H⟩ := a2x (V := C.env vs) hR hN (ty := o.type) (a1Y ok hR hs) hu rfl hz hzk hby (k := fun v hp => P.f k sk fr hp v) (a7x ok hR h1)
        exact ⟨v, hp', 3, h2, o8.does hd fun {w F μ ρ} hO hid hH => by
          obtain ⟨μ', F', w', r, r1, ⟨r2, r3⟩, r4, r5⟩ := H.out (u := (ρ x, ρ y)) ⟨hO x hx, hO y hy⟩ hid hH hs2 hid2
          exact ⟨_, r, w', μ', F', by rw [he]; exact ek r1, .inl rfl, r2, r3, r4, r5⟩, .inr (.inr (.inr ⟨rfl, by rw [hop]; exact Nat.le_refl _⟩)), hd⟩
      · obtain ⟨hk, h1⟩ := dy hR h1
        obtain ⟨v, hp', h2, H⟩ := a4E (V := C.env vs) ok hR hN (ty := o.type) (a1Y ok hR hs) (aa1 hk) hzk hz rfl hby (k := fun v hp => P.f k sk fr hp v) (a7x ok hR h1)
        exact ⟨v, hp', 3, h2, o8.does hd fun {w F μ ρ} hO hid hH => rj.of (he ρ) (H (hO x hx) (hO y hy) hH hid) fun w' F' μ' r h => h, .inr (.inr (.inr ⟨rfl, by rw [hop]; exact Nat.le_refl _⟩)), hd⟩
    · exact an hR h
  · exact an hR h
theorem tB (hN : iQ N hp id) (o : Oper) (hcall : ∀ f as ts, o.op = .call ⟨.value f, as, ts⟩ → (a8D C g P k f as).run sk fr hp = R → Out C (C.env vs) g P k sk fr o id hp R) (h : (iO C g P N k o.op).run sk fr hp = R) : Out C (C.env vs) g P k sk fr o id hp R := by
  cases hop : o.op <;> rw [hop] at h <;> first | exact an hR h | skip
  case move x => exact a3t ok hR o (.inl hop) h
  case assign x => exact a3t ok hR o (.inr hop) h
  case pick c a b => exact adu ok hR o hop h
  case alloc t => exact a5E ok hR hN o hop h
  case box t x => exact aeQ ok hR hN o hop h
  case build t ps => exact a5T ok hR o hop h
  case buildSlice t n ps => exact vc ok hR hN o hop h
  case load t a => exact a8T ok hR o hop h
  case store t a x => exact a5l ok hR o hop h
  case nilCheck x => exact aaC ok hR o hop h
  case binOp op t x y u => exact aam ok hR o hop h
  case unOp op t x => exact afL ok hR o hop h
  case convert s d x => exact a9z ok hR hN o hop h
  case makeFunc f a b =>
    cases f with
    | func f => exact a8V ok hR o hop h
    | _ => exact an hR h
  case slice t x lo hi mx => exact a5z ok hR o hop h
  case fieldAddr t x f => exact xz ok hR o hop h
  case field t x f => exact a4M ok hR o hop h
  case indexAddr t x i => exact wA ok hR o hop h
  case index t x i => exact a5q ok hR o hop h
  case extract x i => exact a1I ok hR o hop h
  case call c =>
    obtain ⟨cal, as, ts⟩ := c
    cases cal with
    | value f => exact hcall f as ts hop h
    | invoke r m => exact an hR h
    | builtin b => exact a1V ok hR hN o hop h
end
section
variable {C : Cx}
noncomputable def sig (C : Cx) (g : G) (sk : Row) (fr : Fr) (t : Nat) : AV := sv g.d (look C g t) sk fr
structure gC (C : Cx) (g : G) : Prop where
  nv : ∀ e ∈ g.m, isVar C e.1 = false
  st : ∀ e ∈ g.m, ∀ l, e.2 = .s l → l < g.d
  nd : (g.m.map (·.1)).Nodup
theorem gC.e : gC C .e := ⟨fun _ h => (by cases h), fun _ h => (by cases h), List.nodup_nil⟩
noncomputable def ly (l : List (Nat × Src)) (z : Src) (t : Nat) : Src := List.rec (motive := fun _ => Src) z (fun a _ ih => Bool.rec (motive := fun _ => Src) ih a.2 (Nat.beq a.1 t)) l
theorem look_eq (g : G) (t : Nat) : look C g t = ly g.m (idxOf t C.vars 0) t := rfl
theorem kZ (a : Nat × Src) (l : List (Nat × Src)) (z : Src) (t : Nat) : ly (a :: l) z t = if a.1 = t then a.2 else ly l z t := by
  show (Bool.rec (motive := fun _ => Src) (ly l z t) a.2 (Nat.beq a.1 t) : Src) = _
  rw [eF]; simp only [aF]
theorem a2S (t : Nat) : isVar C t = true ↔ t ∈ C.vars := by
  unfold isVar
  induction C.vars with
  | nil => simp
  | cons a l ih =>
    show (Bool.rec (motive := fun _ => Bool) _ true (Nat.beq a t) : Bool) = true ↔ _
    rw [eF]
    by_cases e : a = t
    · subst e; simp
    · rw [if_neg (by rw [aF]; exact e), ih, List.mem_cons]
      exact ⟨.inr, fun h => h.resolve_left fun h => e h.symm⟩
theorem idxOf_cons (a : Nat) (l : List Nat) (t i : Nat) : idxOf t (a :: l) i = if a = t then .f i else idxOf t l (i + 1) := by
  show (Bool.rec (motive := fun _ => Src) (idxOf t l (Nat.succ i)) (.f i) (Nat.beq a t) : Src) = _
  rw [eF]; simp only [aF]
theorem xk : ∀ {l : List Nat} {t i : Nat}, t ∉ l → idxOf t l i = .no
  | [], _, _, _ => rfl
  | a :: l, t, i, h => by
    rw [idxOf_cons, if_neg (by rintro rfl; exact h (List.mem_cons_self ..))]
    exact xk fun hm => h (List.mem_cons_of_mem _ hm)
theorem sW : ∀ {l : List Nat} {t i : Nat}, t ∈ l → ∃ j, idxOf t l i = .f j ∧ i ≤ j
  | a :: l, t, i, h => by
    rw [idxOf_cons]
    by_cases e : a = t
    · rw [if_pos e]; exact ⟨i, rfl, Nat.le_refl _⟩
    · rw [if_neg e]
      obtain ⟨j, h1, h2⟩ := sW (i := i + 1) ((List.mem_cons.1 h).resolve_left fun q => e q.symm)
      exact ⟨j, h1, by omega⟩
theorem vE {l : List Nat} {t i : Nat} : (∃ j, idxOf t l i = .f j) ∨ idxOf t l i = .no := by
  by_cases h : t ∈ l
  · obtain ⟨j, h, _⟩ := sW (i := i) h; exact .inl ⟨j, h⟩
  · exact .inr (xk h)
theorem yf : ∀ {l : List Nat} {t i j : Nat}, idxOf t l i = .f j → i ≤ j
  | [], _, _, _, h => by cases h
  | a :: l, t, i, j, h => by
    rw [idxOf_cons] at h
    split at h
    · cases h; exact Nat.le_refl _
    · have := yf h; omega
theorem tJ : ∀ {l : List Nat} {t u i j : Nat}, idxOf t l i = .f j → idxOf u l i = .f j → t = u
  | [], _, _, _, _, h, _ => by cases h
  | a :: l, t, u, i, j, h1, h2 => by
    rw [idxOf_cons] at h1 h2
    split at h1
    · rename_i e1
      split at h2
      · rename_i e2; exact e1.symm.trans e2
      · cases h1; have := yf h2; omega
    · split at h2
      · cases h2; have := yf h1; omega
      · exact tJ h1 h2
theorem a0a {t j : Nat} (h : idxOf t C.vars 0 = .f j) : isVar C t = true := by
  rw [a2S]
  exact Classical.byContradiction fun hn => by rw [xk hn] at h; cases h
theorem mY (d : Nat) (a : Nat × Src) (l : List (Nat × Src)) : dropKey d (a :: l) = if a.1 = d then dropKey d l else a :: dropKey d l := by
  show (Bool.rec (motive := fun _ => List (Nat × Src)) (a :: dropKey d l) (dropKey d l) (Nat.beq a.1 d) : List (Nat × Src)) = _
  rw [eF]; simp only [aF]
theorem jB {d : Nat} : ∀ {l : List (Nat × Src)} {e : Nat × Src}, e ∈ dropKey d l → e ∈ l ∧ e.1 ≠ d
  | [], _, h => by cases h
  | a :: l, e, h => by
    rw [mY] at h
    split at h
    · obtain ⟨h1, h2⟩ := jB h; exact ⟨List.mem_cons_of_mem _ h1, h2⟩
    · rcases List.mem_cons.1 h with rfl | h
      · exact ⟨List.mem_cons_self .., by assumption⟩
      · obtain ⟨h1, h2⟩ := jB h; exact ⟨List.mem_cons_of_mem _ h1, h2⟩
theorem jQ (d : Nat) : ∀ (l : List (Nat × Src)), (dropKey d l).Sublist l
  | [] => List.Sublist.slnil
  | a :: l => by
    rw [mY]
    split
    · exact (jQ d l).cons _
    · exact (jQ d l).cons_cons _
theorem ng {d t : Nat} (h : t ≠ d) (z : Src) : ∀ (l : List (Nat × Src)), ly (dropKey d l) z t = ly l z t
  | [] => rfl
  | a :: l => by
    rw [mY, kZ]
    by_cases e : a.1 = d
    · rw [if_pos e, if_neg (fun q => h (q.symm.trans e)), ng h z l]
    · rw [if_neg e, kZ, ng h z l]
theorem gC.push {g : G} (h : gC C g) {d : Nat} {s : Src} {m : Nat} (hd : isVar C d = false) (hs : ∀ l, s = .s l → l < m) (hm : g.d ≤ m) : gC C ⟨m, (d, s) :: dropKey d g.m⟩ where
  nv := fun e he => by
    rcases List.mem_cons.1 he with rfl | he
    · exact hd
    · exact h.nv e (jB he).1
  st := fun e he l hl => by
    rcases List.mem_cons.1 he with rfl | he
    · exact hs l hl
    · exact Nat.lt_of_lt_of_le (h.st e (jB he).1 l hl) hm
  nd := by
    show (d :: (dropKey d g.m).map (·.1)).Nodup
    rw [List.nodup_cons]
    refine ⟨fun hm => ?_, h.nd.sublist ((jQ d g.m).map _)⟩
    obtain ⟨e, he, rfl⟩ := List.mem_map.1 hm
    exact (jB he).2 rfl
theorem pH {g : G} {d : Nat} {s : Src} {m : Nat} (t : Nat) : look C ⟨m, (d, s) :: dropKey d g.m⟩ t = if t = d then s else look C g t := by
  rw [look_eq, look_eq, kZ]
  by_cases e : t = d
  · rw [if_pos e, if_pos e.symm]
  · rw [if_neg e, if_neg (Ne.symm e), ng e]
theorem lT {z : Src} {t : Nat} : ∀ {l : List (Nat × Src)}, (∃ e ∈ l, e.1 = t ∧ ly l z t = e.2) ∨ ((∀ e ∈ l, e.1 ≠ t) ∧ ly l z t = z)
  | [] => .inr ⟨fun _ h => (by cases h), rfl⟩
  | a :: l => by
    rw [kZ]
    by_cases e : a.1 = t
    · rw [if_pos e]; exact .inl ⟨a, List.mem_cons_self .., e, rfl⟩
    · rw [if_neg e]
      rcases lT (z := z) (t := t) (l := l) with ⟨x, h1, h2⟩ | ⟨h1, h2⟩
      · exact .inl ⟨x, List.mem_cons_of_mem _ h1, h2⟩
      · exact .inr ⟨fun x hx => (List.mem_cons.1 hx).elim (fun q => q ▸ e) (h1 x), h2⟩
theorem a7U {g : G} (h : gC C g) {t l : Nat} (hl : look C g t = .s l) : l < g.d := by
  rw [look_eq] at hl
  rcases lT (z := idxOf t C.vars 0) (t := t) (l := g.m) with ⟨e, h1, _, h3⟩ | ⟨_, h2⟩
  · rw [h3] at hl; exact h.st e h1 l hl
  · rw [h2] at hl
    rcases vE (l := C.vars) (t := t) (i := 0) with ⟨j, hj⟩ | hj <;> rw [hj] at hl <;> cases hl
open Classical in
theorem vX (d i : Nat) (a : Nat × Src) (l : List (Nat × Src)) : eW d i (a :: l) = if a.1 = d ∨ a.2 = .f i ∨ a.2 = .no then eW d i l else a :: eW d i l := by
  show (Bool.rec (motive := fun _ => List (Nat × Src)) (Src.rec (motive := fun _ => List (Nat × Src)) (fun _ => a :: eW d i l) (fun _ => a :: eW d i l) (fun j => Bool.rec (motive := fun _ => List (Nat × Src)) (a :: eW d i l) (eW d i l) (Nat.beq j i)) (eW d i l) a.2) (eW d i l) (Nat.beq a.1 d) : List (Nat × Src)) = _
  rw [eF]
  simp only [aF]
  by_cases e : a.1 = d
  · rw [if_pos e, if_pos (.inl e)]
  · rw [if_neg e]
    obtain ⟨x, s⟩ := a
    cases s with
    | c v => simp [e]
    | s l => simp [e]
    | f j =>
      show (Bool.rec (motive := fun _ => List (Nat × Src)) _ _ (Nat.beq j i) : List (Nat × Src)) = _
      rw [eF]
      simp only [aF]
      by_cases e2 : j = i
      · rw [if_pos e2]; simp [e2]
      · rw [if_neg e2]; simp [e, e2]
    | no => simp [e]
theorem mz {d i : Nat} : ∀ {l : List (Nat × Src)} {e : Nat × Src}, e ∈ eW d i l → e ∈ l ∧ e.1 ≠ d ∧ e.2 ≠ .f i ∧ e.2 ≠ .no
  | [], _, h => by cases h
  | a :: l, e, h => by
    rw [vX] at h
    split at h
    · obtain ⟨h1, h2⟩ := mz h; exact ⟨List.mem_cons_of_mem _ h1, h2⟩
    · rename_i hn
      rcases List.mem_cons.1 h with rfl | h
      · exact ⟨List.mem_cons_self .., fun q => hn (.inl q), fun q => hn (.inr (.inl q)), fun q => hn (.inr (.inr q))⟩
      · obtain ⟨h1, h2⟩ := mz h; exact ⟨List.mem_cons_of_mem _ h1, h2⟩
theorem lB (d i : Nat) : ∀ (l : List (Nat × Src)), (eW d i l).Sublist l
  | [] => List.Sublist.slnil
  | a :: l => by
    rw [vX]
    split
    · exact (lB d i l).cons _
    · exact (lB d i l).cons_cons _
theorem gC.eW {g : G} (h : gC C g) (d i : Nat) : gC C ⟨g.d, Go.Proofs.YtbamejikafhenaaDoor.Ev.eW d i g.m⟩ where
  nv := fun e he => h.nv e (mz he).1
  st := fun e he l hl => h.st e (mz he).1 l hl
  nd := h.nd.sublist ((lB d i g.m).map _)
theorem a8Q {l : List (Nat × Src)} {z : Src} {t : Nat} (hn : (l.map (·.1)).Nodup) {e : Nat × Src} (he : e ∈ l) (ht : e.1 = t) : ly l z t = e.2 := by
  induction l with
  | nil => cases he
  | cons a l ih =>
    rw [List.map_cons, List.nodup_cons] at hn
    rw [kZ]
    rcases List.mem_cons.1 he with rfl | he
    · rw [if_pos ht]
    · rw [if_neg fun q => hn.1 (by rw [q, ← ht]; exact List.mem_map.2 ⟨e, he, rfl⟩)]
      exact ih hn.2 he
theorem xn {g : G} (h : gC C g) {d i : Nat} (hd : idxOf d C.vars 0 = .f i) (t : Nat) : (t = d → look C ⟨g.d, Go.Proofs.YtbamejikafhenaaDoor.Ev.eW d i g.m⟩ t = .f i) ∧ (t ≠ d → look C ⟨g.d, Go.Proofs.YtbamejikafhenaaDoor.Ev.eW d i g.m⟩ t = .no ∨ (look C ⟨g.d, Go.Proofs.YtbamejikafhenaaDoor.Ev.eW d i g.m⟩ t = look C g t ∧ look C g t ≠ .f i)) := by
  rw [look_eq, look_eq]
  show (t = d → ly (Go.Proofs.YtbamejikafhenaaDoor.Ev.eW d i g.m) (idxOf t C.vars 0) t = .f i) ∧ (t ≠ d → ly (Go.Proofs.YtbamejikafhenaaDoor.Ev.eW d i g.m) (idxOf t C.vars 0) t = .no ∨ (ly (Go.Proofs.YtbamejikafhenaaDoor.Ev.eW d i g.m) (idxOf t C.vars 0) t = ly g.m (idxOf t C.vars 0) t ∧ ly g.m (idxOf t C.vars 0) t ≠ .f i))
  rcases lT (z := idxOf t C.vars 0) (t := t) (l := Go.Proofs.YtbamejikafhenaaDoor.Ev.eW d i g.m) with ⟨e, h1, h2, h3⟩ | ⟨h1, h2⟩
  · obtain ⟨q1, q2, q3, q4⟩ := mz h1
    refine ⟨fun e' => absurd (h2.trans e') q2, fun _ => .inr ?_⟩
    rw [h3, a8Q h.nd q1 h2]
    exact ⟨rfl, q3⟩
  · refine ⟨fun e => by rw [h2, e]; exact hd, fun e => ?_⟩
    rw [h2]
    rcases vE (l := C.vars) (t := t) (i := 0) with ⟨j, hj⟩ | hj
    · right
      have hnone : ∀ e ∈ g.m, e.1 ≠ t := fun e he q => by
        have := h.nv e he
        rw [q, a0a hj] at this; cases this
      rcases lT (z := idxOf t C.vars 0) (t := t) (l := g.m) with ⟨x, p1, p2, _⟩ | ⟨_, p2⟩
      · exact absurd p2 (hnone x p1)
      · rw [p2]
        refine ⟨rfl, fun q => e ?_⟩
        exact tJ q hd
    · exact .inl hj
def nq (σ σ' : Nat → AV) (dst : Option Nat) (v : AV) : Prop := ∀ t, (dst = some t → σ' t = v) ∧ (dst ≠ some t → σ' t = σ t ∨ σ' t = .uu)
theorem rG {R : aa} (hR : R ≠ .fail) {g : G} (hg : gC C g) {dt : Option Nat} {k : G → Sm} {sk : Row} {fr : Fr} {hp : Hp} {v : AV} (h : (dst C g dt).p.f (k (dst C g dt).g) sk fr hp v = R) :
    ∃ g' sk' fr', (k g').run sk' fr' hp = R ∧ gC C g' ∧ nq (sig C g sk fr) (sig C g' sk' fr') dt v ∧ ∀ t, dt = some t → t < C.nt := by
  cases dt with
  | none => exact ⟨g, sk, fr, h, hg, fun t => ⟨fun e => (by cases e), fun _ => .inl rfl⟩, fun t e => (by cases e)⟩
  | some d =>
    have e0 : dst C g (some d) = Bool.rec (motive := fun _ => PG) ⟨acF, g⟩ (dst.dstOf C g d) (Nat.ble (Nat.succ d) C.nt) := rfl
    rw [e0] at h
    cases hb : Nat.ble (Nat.succ d) C.nt with
    | false => rw [hb] at h; exact an hR h
    | true =>
      rw [hb] at h
      rw [bA] at hb
      have h' : (dst.dstOf C g d).p.f (k (dst.dstOf C g d).g) sk fr hp v = R := h
      unfold dst.dstOf at h'
      cases hi : idxOf d C.vars 0 with
      | f i =>
        rw [hi] at h'
        obtain ⟨fr', hf, h2⟩ := wO hR i (k := fun fr => (k ⟨g.d, eW d i g.m⟩).run sk fr hp) h'
        refine ⟨_, sk, fr', h2, hg.eW d i, fun t => ⟨fun e => ?_, fun e => ?_⟩, fun t e => by cases e; exact hb⟩
        · cases e
          show sv g.d (look C ⟨g.d, eW d i g.m⟩ d) sk fr' = v
          rw [(xn hg hi d).1 rfl]
          show fr'.at i = v
          rw [hf, if_pos rfl]
        · show sv g.d (look C ⟨g.d, eW d i g.m⟩ t) sk fr' = sv g.d (look C g t) sk fr ∨ sv g.d (look C ⟨g.d, eW d i g.m⟩ t) sk fr' = .uu
          rcases (xn hg hi t).2 (fun q => e (by rw [q])) with q | ⟨q1, q2⟩
          · rw [q]; exact .inr rfl
          · rw [q1]
            left
            cases hl : look C g t with
            | f j =>
              show fr'.at j = fr.at j
              rw [hf, if_neg]
              intro ej; rw [ej] at hl; exact q2 hl
            | _ => rfl
      | _ =>
        rw [hi] at h'
        have hnv : isVar C d = false := by
          cases hv : isVar C d with
          | false => rfl
          | true =>
            obtain ⟨j, hj, _⟩ := sW (i := 0) ((a2S (C := C) d).1 hv)
            rw [hj] at hi; cases hi
        refine ⟨⟨Nat.succ g.d, (d, .s g.d) :: dropKey d g.m⟩, .nd v .lf sk, fr, h', hg.push hnv (fun l e => by cases e; exact Nat.lt_succ_self _) (Nat.le_succ _), fun t => ⟨fun e => ?_, fun e => .inl ?_⟩, fun t e => by cases e; exact hb⟩
        · cases e
          show sv (Nat.succ g.d) (look C ⟨Nat.succ g.d, (d, .s g.d) :: dropKey d g.m⟩ d) (.nd v .lf sk) fr = v
          rw [pH, if_pos rfl]
          show nth (.nd v .lf sk) (Nat.sub (Nat.sub (Nat.succ g.d) 1) g.d) = v
          have : Nat.sub (Nat.sub (Nat.succ g.d) 1) g.d = 0 := by show g.d + 1 - 1 - g.d = 0; omega
          rw [this]; rfl
        · show sv (Nat.succ g.d) (look C ⟨Nat.succ g.d, (d, .s g.d) :: dropKey d g.m⟩ t) (.nd v .lf sk) fr = sv g.d (look C g t) sk fr
          rw [pH, if_neg (fun q => e (by rw [q]))]
          cases hl : look C g t with
          | s l =>
            have hlt := a7U hg hl
            show nth (.nd v .lf sk) (Nat.sub (Nat.sub (Nat.succ g.d) 1) l) = nth sk (Nat.sub (Nat.sub g.d 1) l)
            have : Nat.sub (Nat.sub (Nat.succ g.d) 1) l = Nat.sub (Nat.sub g.d 1) l + 1 := by show g.d + 1 - 1 - l = g.d - 1 - l + 1; omega
            rw [this]; rfl
          | _ => rfl
theorem a02 {g : G} (hg : gC C g) {o : Oper} {rest : List Oper} {a : Nat × Src} (h : alias C g o rest = some a) (sk : Row) (fr : Fr) :
    ∃ x, (o.op = .move x ∨ o.op = .assign x) ∧ o.guard = none ∧ o.dst = some a.1 ∧ gC C ⟨g.d, a :: dropKey a.1 g.m⟩ ∧ nq (sig C g sk fr) (sig C ⟨g.d, a :: dropKey a.1 g.m⟩ sk fr) o.dst (ov C g sk fr x) := by
  have fin : ∀ (d : Nat) (x : Operand) (b : Nat × Src), isVar C d = false → (if isVar C d then none else
    (match src C g x with
     | .c v => some (d, .c v)
     | .s l => some (d, .s l)
     | .f i => (match x with | .tmp t => if writes t rest then none else some (d, .f i) | _ => none)
     | .no => none)) = some b → b.1 = d ∧ b.2 = src C g x := by
    intro d x b hv h
    rw [hv] at h
    simp only [Bool.false_eq_true, if_false] at h
    cases hs : src C g x with
    | c v => rw [hs] at h; cases h; exact ⟨rfl, rfl⟩
    | s l => rw [hs] at h; cases h; exact ⟨rfl, rfl⟩
    | f i =>
      rw [hs] at h
      cases x with
      | tmp t =>
        simp only at h
        split at h
        · cases h
        · cases h; exact ⟨rfl, rfl⟩
      | _ => cases h
    | no => rw [hs] at h; cases h
  have fin2 : ∀ (d : Nat) (x : Operand), (o.op = .move x ∨ o.op = .assign x) → o.guard = none → o.dst = some d → (if isVar C d then none else
    (match src C g x with
     | .c v => some (d, .c v)
     | .s l => some (d, .s l)
     | .f i => (match x with | .tmp t => if writes t rest then none else some (d, .f i) | _ => none)
     | .no => none)) = some a → ∃ x, (o.op = .move x ∨ o.op = .assign x) ∧ o.guard = none ∧ o.dst = some a.1 ∧ gC C ⟨g.d, a :: dropKey a.1 g.m⟩ ∧ nq (sig C g sk fr) (sig C ⟨g.d, a :: dropKey a.1 g.m⟩ sk fr) o.dst (ov C g sk fr x) := by
    intro d x hop hgd hdst h
    have hv : isVar C d = false := by
      cases hv : isVar C d with
      | false => rfl
      | true => rw [hv] at h; simp at h
    obtain ⟨q1, q2⟩ := fin d x a hv h
    obtain ⟨a1, a2⟩ := a
    simp only at q1 q2
    subst q1; subst q2
    refine ⟨x, hop, hgd, hdst, hg.push hv (fun l e => ?_) (Nat.le_refl _), fun t => ⟨fun e => ?_, fun e => .inl ?_⟩⟩
    · cases x with
      | tmp t => exact a7U hg e
      | const v => cases e
      | func f => cases e
      | global n =>
        exfalso
        have e' : (List.rec (motive := fun _ => Src) .no (fun a _ ih => Bool.rec (motive := fun _ => Src) ih (.c a.2) (Nat.beq a.1 n)) C.gl : Src) = .s l := e
        revert e'
        generalize C.gl = gl
        intro e'
        induction gl with
        | nil => cases e'
        | cons y r ih =>
          have e2 : (Bool.rec (motive := fun _ => Src) (List.rec (motive := fun _ => Src) .no (fun a _ ih => Bool.rec (motive := fun _ => Src) ih (.c a.2) (Nat.beq a.1 n)) r) (.c y.2) (Nat.beq y.1 n) : Src) = .s l := e'
          rw [eF] at e2
          split at e2
          · cases e2
          · exact ih e2
    · rw [hdst] at e; cases e
      show sv g.d (look C ⟨g.d, (a1, src C g x) :: dropKey a1 g.m⟩ a1) sk fr = ov C g sk fr x
      rw [pH, if_pos rfl]; rfl
    · show sv g.d (look C ⟨g.d, (a1, src C g x) :: dropKey a1 g.m⟩ t) sk fr = sv g.d (look C g t) sk fr
      rw [pH, if_neg (fun q => e (by rw [hdst, q]))]
  unfold alias at h
  split at h
  · rename_i d x hgd hdst hop
    exact fin2 d x (.inl hop) hgd hdst h
  · rename_i d x hgd hdst hop
    exact fin2 d x (.inr hop) hgd hdst h
  · cases h
end
end Go.Proofs.YtbamejikafhenaaDoor.Ev
