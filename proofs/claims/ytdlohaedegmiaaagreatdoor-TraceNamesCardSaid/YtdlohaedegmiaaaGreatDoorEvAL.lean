import Derived.Test.YtdlohaedegmiaaaGreatDoorEvAK
namespace Go.Proofs.YtdlohaedegmiaaaGreatDoor.Ev
theorem au.sub {V : Env} {w : World} {F : Nat → Prop} {μ : Mu} {h h' : Hp} (H : au V μ F h w) (he : ∀ b, (h'.at b).gone ∨ h'.at b = h.at b) (hn : h.nx ≤ h'.nx) : au V μ F h' w := by
  have wr : ∀ b, (h'.at b).wr → (h.at b).wr := fun b hw => (he b).elim (fun g => absurd hw (fx g)) fun e => e ▸ hw
  exact ⟨fun b => (he b).elim (fun g => .gone g) fun e => e ▸ H.aF b, fun b b' m m' h1 h2 => H.dw b b' m m' (wr b h1) (wr b' h2), fun b m hm => let ⟨q1, q2⟩ := H.et b m hm; ⟨Nat.lt_of_lt_of_le q1 hn, q2⟩, H.fN, H.jk⟩
theorem fC {t : Nat} : ∀ {l : List Operand}, Operand.tmp t ∈ l → t ∈ tmpsOf l
  | x :: l, h => by
    rcases List.mem_cons.1 h with rfl | h
    · exact List.mem_cons_self ..
    · have := fC h
      cases x with
      | tmp u => exact List.mem_cons_of_mem _ this
      | _ => exact this
theorem mem_reads {ops : Array Oper} {o : Oper} {t : Nat} (h : Operand.tmp t ∈ o.op.operands.toList ∨ ∃ j want, o.guard = some (j, want) ∧ (ops[j]?).bind (·.dst) = some t) : t ∈ dE ops o := by
  unfold dE
  cases hg : o.guard with
  | none =>
    rcases h with h | ⟨j, want, h, _⟩
    · exact fC h
    · rw [hg] at h; cases h
  | some gq =>
    obtain ⟨j, want⟩ := gq
    simp only
    cases hd : (ops[j]?).bind (·.dst) with
    | none =>
      rcases h with h | ⟨j', want', h, h2⟩
      · exact fC h
      · rw [hg] at h; cases h
        rw [hd] at h2; cases h2
    | some u =>
      rcases h with h | ⟨j', want', h, h2⟩
      · exact List.mem_cons_of_mem _ (fC h)
      · rw [hg] at h; cases h
        rw [hd] at h2; cases h2
        exact List.mem_cons_self ..
theorem a5i {w : World} {F : Nat → Prop} {μ : Mu} {v : AV} {u : Value} {b : Nat} (h : ae w F μ v u) (hb : dp v = some b) : μ b ≠ none := by
  cases h with
  | ptr h => cases hb; rw [h]; simp
  | @ms _ b' o n z c m h _ _ =>
    cases n with
    | zero => cases hb
    | succ n => cases hb; rw [h]; simp
  | map h => cases hb; rw [h]; simp
  | _ => cases hb
theorem cK.wpS {V : Env} {ops : Array Oper} {O : Operand → AV} {o : Oper} {id : Nat} {hA hB hS : Hp} {v : AV} {kd : Nat} (s : cK V ops O o id hA v hB kd) {i : Nat} (hi : ops[i]? = some o) {w : World} {F : Nat → Prop} {μ : Mu} {a : Act} {r : Option Nat} {n : Nat} {Q : Exit → Act → World → Prop} {K : Act → World → Prop}
    (hO : iC w F μ O o.op.operands.toList a.eval) (hG : ∀ j want t, o.guard = some (j, want) → (ops[j]?).bind (·.dst) = some t → ae w F μ (O (.tmp t)) (a.tmps.getD t undef)) (hid : μ id = none) (HS : au V μ F hS w) (hidn : id < hS.nx)
    (hread : kd = 1 → ∀ p, spot o.op = some p → p ∈ o.op.operands.toList → bB hA (O p) → du V w F μ hA (O p)) (h3 : kd = 3 → au V μ F hA w)
    (k01 : kd ≤ 1 → ∀ x, ae w F μ v x → K (a.put o.dst x) w)
    (k2 : kd = 2 → ∀ B, br hA id B hB → ∀ hS' x w' μ' F', br hS id B hS' → hS'.nx = hS.nx → ae w' F' μ' v x → cI id μ μ' → au V μ' F' hS' w' → Ext μ F hS w μ' F' hS' w' → K (a.put o.dst x) w')
    (k3 : kd = 3 → ∀ x w' μ' F', ae w' F' μ' v x → dO id hA μ μ' → au V μ' F' hB w' → Ext μ F hA w μ' F' hB w' → K (a.put o.dst x) w') : wpOpIn (Wf r) n V.P ops Q i K a w := by
  unfold wpOpIn
  rw [hi]
  cases s with
  | skip hw hv hh =>
    subst hv
    simp only [hw hG, Bool.false_eq_true, if_false]
    exact ⟨fun _ _ => trivial, k01 (by omega) undef im⟩
  | run hw hd k =>
    simp only [hw hG, if_true]
    cases k with
    | pure h G =>
      obtain ⟨nx, x, h1, h2, h3⟩ := G hO
      exact dq hd h1 h2 (k01 (by omega) x h3)
    | read p h hsp hm hl G =>
      obtain ⟨nx, x, h1, h2, h3⟩ := G hO (hread rfl p hsp hm hl)
      exact dq hd h1 h2 (k01 (by omega) x h3)
    | make B hs hn G =>
      obtain ⟨t', ht⟩ := a3q .dead id hS.t B
      have hset : br hS id B ⟨t', hS.nx, hS.pr, hS.rb⟩ := ⟨fun b => ht b, Nat.le_refl _, rfl, rfl⟩
      obtain ⟨nx, x, w', μ', F', h1, h2, h3, h4, h5, h6⟩ := G hO hid HS hset hidn
      exact dq hd h1 h2 (k2 rfl B hs _ x w' μ' F' hset rfl h3 h4 h5 h6)
    | other G => exact G hO hid (h3 rfl) (k3 rfl)
def HSp (rb n : Nat) (T : Nat → TP) (H : Nat → Hp) (D : Nat → Prop) (q b : Nat) (X : aX) : Prop :=
  (∀ k, k < n → (T k).kd = 2 → bd rb T k = b → (D (T k).x.i → (q ≤ k → BEq X ((H (k + 1)).at b)) ∧ (k < q → BEq X ((H q).at b))) ∧ (¬ D (T k).x.i → X.gone)) ∧ ((∀ k, k < n → (T k).kd = 2 → bd rb T k ≠ b) → BEq X ((H q).at b))
structure Inv (V : Env) (nt rb n : Nat) (T : Nat → TP) (H : Nat → Hp) (S : Nat → Nat → AV) (μ0 : Mu) (F0 : Nat → Prop) (w0 : World) (df : List Deferred) (D : Nat → Prop) (q : Nat) (μ : Mu) (F : Nat → Prop) (a : Act) (w : World) : Prop where
  cl : ∀ k j, k < n → j < n → D (T k).x.i → bit (T k).x.m (T j).x.i = true → D (T j).x.i
  wl : ∀ k, k < n → (T k).kd = 3 → D (T k).x.i → k < q
  wq : q = 0 ∨ ∃ j, q = j + 1 ∧ j < n ∧ (T j).kd = 3 ∧ D (T j).x.i
  sl : ∀ t, (∃ k, k < n ∧ D (T k).x.i ∧ (T k).x.o.dst = some t ∧ ae w F μ (T k).v (a.tmps.getD t undef)) ∨ ((∀ k, k < n → D (T k).x.i → (T k).x.o.dst ≠ some t) ∧ ae w F μ (S 0 t) (a.tmps.getD t undef))
  hp : ∃ hS, au V μ F hS w ∧ Ext μ0 F0 (H 0) w0 μ F hS w ∧ hS.nx = (H q).nx ∧ hS.pr = (H 0).pr ∧ ∀ b, HSp rb n T H D q b (hS.at b)
  un : ∀ k, k < n → ¬ D (T k).x.i → μ (bd rb T k) = none
  gn : ∀ k, k < n → (T k).kd = 2 → ((H (min q k)).at (bd rb T k)).gone
  ids : ∀ b, μ b ≠ none → μ0 b ≠ none ∨ rb ≤ b
  nt : nt ≤ a.tmps.size
  df : a.defers = df
section
variable {V : Env} {ops : Array Oper} {nt rb n : Nat} {all : List Dr} {T : Nat → TP} {H : Nat → Hp} {S : Nat → Nat → AV} (A : fj V ops nt rb n all T H S)
  {μ0 : Mu} {F0 : Nat → Prop} {w0 : World} {df : List Deferred} {D : Nat → Prop} {q : Nat} {μ : Mu} {F : Nat → Prop} {a : Act} {w : World} (I : Inv V nt rb n T H S μ0 F0 w0 df D q μ F a w)
  {k : Nat} (hk : k < n) (hD : ¬ D (T k).x.i) (rd : ∀ j, j < n → bit (T k).x.m (T j).x.i = true → D (T j).x.i)
include A I
theorem Inv.qn : q ≤ n := by
  have _ := A
  rcases I.wq with h | ⟨j, h, hj, _⟩ <;> omega
theorem Inv.ran {j : Nat} (hj : j < q) (hkd : (T j).kd = 3) : D (T j).x.i := by
  rcases I.wq with h | ⟨j0, h, hj0, hkd0, hD0⟩
  · omega
  · by_cases e : j = j0
    · subst e; exact hD0
    · rcases e9 (A.pair j j0 (by omega) hj0).2.2 with h1 | h1 | h1
      · exact I.cl j0 j hj0 (by omega) hD0 h1
      · rcases A.kd hj0 with h2 | h2 <;> omega
      · rcases A.kd (k := j) (by omega) with h2 | h2 <;> omega
include hk rd in
theorem Inv.w1 (hc : 1 ≤ (T k).x.c) {j : Nat} (hj : j < k) (hkd : (T j).kd = 3) : j < q := by
  rcases e9 (A.pair j k hj hk).2.2 with h1 | h1 | h1
  · exact I.wl j (by omega) hkd (rd j (by omega) h1)
  · omega
  · rcases A.kd (k := j) (by omega) with h2 | h2 <;> omega
include hk hD in
theorem Inv.w2 {j : Nat} (hj : j < n) (hDj : D (T j).x.i) : bit (T j).x.m (T k).x.i = false := by
  have _ := A
  cases h : bit (T j).x.m (T k).x.i with
  | false => rfl
  | true => exact absurd (I.cl j k hj hk hDj h) hD
include hk hD in
theorem Inv.w3 (hkd : (T k).kd = 3) : q ≤ k := by
  rcases I.wq with h | ⟨j, h, hj, hkdj, hDj⟩
  · omega
  · by_cases e : j < k
    · omega
    · exfalso
      have hne : j ≠ k := fun e => hD (e ▸ hDj)
      rcases e9 (A.pair k j (by omega) hj).2.2 with h1 | h1 | h1
      · rw [I.w2 A hk hD hj hDj] at h1; cases h1
      · rcases A.kd hj with h2 | h2 <;> omega
      · rcases A.kd hk with h2 | h2 <;> omega
theorem Inv.bS (_ : q ≤ k) (hkn : k ≤ n) (hno : ∀ j, j < k → (T j).kd = 3 → j < q) {j b : Nat} (hqj : q ≤ j) (hjk : j ≤ k) (hb : ∀ m, j ≤ m → m < k → (T m).kd = 2 → bd rb T m ≠ b) : (H k).at b = (H j).at b := have _ := I; 
  A.stays hjk hkn fun m h1 h2 => ⟨fun e => by have := hno m h2 e; omega, hb m h1 h2⟩
include hk hD rd in
theorem Inv.slot {t : Nat} (ht : t ∈ (T k).x.r) : ae w F μ (S k t) (a.tmps.getD t undef) := by
  rcases I.sl t with ⟨j, hj, hDj, hdst, hc⟩ | ⟨hno, hc⟩
  · have hne : j ≠ k := fun e => hD (e ▸ hDj)
    by_cases e : j < k
    · have hs : S (j + 1) t = (T j).v := (A.slot hj t).1 hdst
      rcases A.fg (j := j + 1) (t := t) (k := k) (by omega) (by omega) (fun m h1 h2 => (fJ (A.pair j m (by omega) (by omega)).1 hdst).1) with h | h
      · rw [h, hs]; exact hc
      · rw [h]; exact .uu _
    · exfalso
      rcases (fJ (A.pair k j (by omega) hj).2.1 hdst).2 ht with h | h
      · have := A.top k j hk hj h; omega
      · rw [I.w2 A hk hD hj hDj] at h; cases h
  · rcases A.fg (j := 0) (t := t) (k := k) (by omega) (by omega) (fun m _ h2 hdst => by
        rcases (fJ (A.pair m k h2 hk).1 hdst).2 ht with h | h
        · exact hno m (by omega) (rd m (by omega) h) hdst
        · have := A.top m k (by omega) hk h; omega) with h | h
    · rw [h]; exact hc
    · rw [h]; exact .uu _
include hk hD in
theorem Inv.kept (hc : (T k).x.c = 1) {p : Operand} (hsp : spot (T k).x.o.op = some p) {b : Nat} (hb : dp ((T k).O p) = some b) {m : Nat} (hkm : k ≤ m) (hmq : m ≤ q) (hno : ∀ j, k ≤ j → j < m → (T j).kd = 2 → bd rb T j ≠ b) : vS ((H k).at b) ((H m).at b) := by
  have hqn := I.qn A
  refine A.keeps hkm (by omega) fun j h1 h2 => ⟨fun e3 => ?_, hno j h1 h2⟩
  have hjn : j < n := by omega
  have hDj := I.ran A (by omega) e3
  have hne : j ≠ k := fun e => hD (e ▸ hDj)
  obtain ⟨dn, ok, hdn⟩ := A.tp j hjn
  have hloose : (T k).x ∈ eM (T j).x dn := iP.2 ⟨(hdn _).2 ⟨k, by omega, rfl⟩, hc, I.w2 A hk hD hjn hDj⟩
  obtain ⟨hspot, p', hp', hnu, hpl⟩ := ok.eM e3 _ hloose
  rw [hsp] at hp'; cases hp'
  refine hpl b ?_
  obtain ⟨dk, okk, _⟩ := A.tp k hk
  cases p with
  | tmp t =>
    rw [okk.os, (A.sk k hk).1] at hb
    rw [ok.os, (A.sk j hjn).1] at hnu ⊢
    have hw : ∀ z ∈ all, z.o.dst = some t → bit (T k).x.m z.i = true := fun z hz hdst => by
      unfold pI at hspot
      rw [hsp] at hspot
      have h' : kZ (fun z : Dr => Option.rec (motive := fun _ => Bool) true (fun d => Bool.rec (motive := fun _ => Bool) true (bit (T k).x.m z.i) (Nat.beq d t)) z.o.dst) all = true := hspot
      have := eQ h' z hz
      simp only [hdst, Nat.beq_refl] at this
      exact this
    rcases A.fg (j := k) (t := t) (k := j) (by omega) (by omega) (fun m' h3 h4 hdst => by
      have := A.top k m' hk (by omega) (hw _ (A.mem m' (by omega)) hdst)
      omega) with h | h
    · rw [h]; exact hb
    · exact absurd h (hnu _ _ _ _)
  | const v => rw [okk.oc _ (fun t => by simp)] at hb; cases hb
  | func f => rw [okk.oc _ (fun t => by simp)] at hb; cases hb
  | global g => rw [okk.oc _ (fun t => by simp)] at hb; cases hb
include hk hD rd in
theorem Inv.read {hS : Hp} (HS : au V μ F hS w) (hsp0 : ∀ b, HSp rb n T H D q b (hS.at b)) (hkd : (T k).kd = 1) {p : Operand} (hsp : spot (T k).x.o.op = some p) (hlive : bB (H k) ((T k).O p)) {u : Value} (hu : ae w F μ ((T k).O p) u) : du V w F μ (H k) ((T k).O p) := by
  intro b hb
  have hc : (T k).x.c = 1 := by rcases A.kd hk with h | h <;> omega
  have hl := hlive b hb
  have hmu : μ b ≠ none := a5i hu hb
  have hno : ∀ j, j < k → (T j).kd = 3 → j < q := fun j => I.w1 A hk rd (by omega)
  have fin : ∀ {Y : aX}, BEq (hS.at b) Y → vS ((H k).at b) Y → j3 V w F μ b ((H k).at b) := fun {Y} h1 h2 => by
    have hY := h2.live hl
    have e : hS.at b = Y := h1.symm.eq (ze hY) |>.symm
    have := (HS.aF b).read
    rw [e] at this
    exact this.sim h2.symm
  by_cases hm : ∃ j, j < n ∧ (T j).kd = 2 ∧ bd rb T j = b
  · obtain ⟨j, hj, hkj, hjb⟩ := hm
    have hDj : D (T j).x.i := Classical.byContradiction fun h => hmu (hjb ▸ I.un j hj h)
    have hother : ∀ m, m < n → (T m).kd = 2 → m ≠ j → bd rb T m ≠ b := fun m hm _ hne e => hne (A.dU hm hj (e.trans hjb.symm))
    have hX := ((hsp0 b).1 j hj hkj hjb).1 hDj
    have hjk : j ≠ k := fun e => by rw [e] at hkj; omega
    by_cases hlt : j < k
    · by_cases hqk : q ≤ k
      · by_cases hqj : q ≤ j
        · refine fin (hX.1 hqj) (.inl (I.bS A hqk (by omega) hno (j := j + 1) (by omega) (by omega) fun m h1 h2 h3 => hother m (by omega) h3 (by omega)))
        · refine fin (hX.2 (by omega)) (.inl (I.bS A hqk (by omega) hno (Nat.le_refl q) hqk fun m h1 h2 h3 => hother m (by omega) h3 (by omega)))
      · exact fin (hX.2 (by omega)) (I.kept A hk hD hc hsp hb (by omega) (Nat.le_refl q) fun m h1 h2 h3 => hother m (by have := I.qn A; omega) h3 (by omega))
    · exfalso
      have hg := I.gn j hj hkj
      rw [hjb] at hg
      by_cases hqk : q ≤ k
      · rw [Nat.min_eq_left (by omega)] at hg
        have := I.bS A hqk (by omega) hno (Nat.le_refl q) hqk (b := b) fun m h1 h2 h3 => hother m (by omega) h3 (by omega)
        rw [this] at hl
        exact k8 hg hl
      · exact k8 hg ((I.kept A hk hD hc hsp hb (m := min q j) (by omega) (Nat.min_le_left _ _) fun m h1 h2 h3 => hother m (by have := I.qn A; omega) h3 (by omega)).live hl)
  · have hX := (hsp0 b).2 fun j hj hkj e => hm ⟨j, hj, hkj, e⟩
    have hother : ∀ m, m < n → (T m).kd = 2 → bd rb T m ≠ b := fun j hj hkj e => hm ⟨j, hj, hkj, e⟩
    by_cases hqk : q ≤ k
    · exact fin hX (.inl (I.bS A hqk (by omega) hno (Nat.le_refl q) hqk fun m h1 h2 h3 => hother m (by omega) h3))
    · exact fin hX (I.kept A hk hD hc hsp hb (by omega) (Nat.le_refl q) fun m h1 h2 h3 => hother m (by have := I.qn A; omega) h3)
end
section
variable {V : Env} {ops : Array Oper} {nt rb n : Nat} {all : List Dr} {T : Nat → TP} {H : Nat → Hp} {S : Nat → Nat → AV} (A : fj V ops nt rb n all T H S)
  {μ0 : Mu} {F0 : Nat → Prop} {w0 : World} {df : List Deferred} {D : Nat → Prop} {q : Nat} {μ : Mu} {F : Nat → Prop} {a : Act} {w : World} (I : Inv V nt rb n T H S μ0 F0 w0 df D q μ F a w)
  {k : Nat} (hk : k < n) (hD : ¬ D (T k).x.i) (rd : ∀ j, j < n → bit (T k).x.m (T j).x.i = true → D (T j).x.i) {D' : Nat → Prop} (hD' : ∀ i, D' i ↔ D i ∨ i = (T k).x.i)
include A I hk hD rd hD'
theorem Inv.old {j : Nat} (hj : j < n) (hne : j ≠ k) : D' (T j).x.i ↔ D (T j).x.i := have _ := I; have _ := hD; have _ := rd; 
  (hD' _).trans ⟨fun h => h.elim id fun e => absurd (A.inj j k hj hk e) hne, .inl⟩
theorem Inv.here : D' (T k).x.i := have _ := A; have _ := I; have _ := hk; have _ := hD; have _ := rd; (hD' _).2 (.inr rfl)
theorem Inv.cl' : ∀ k' j, k' < n → j < n → D' (T k').x.i → bit (T k').x.m (T j).x.i = true → D' (T j).x.i := fun k' j hk' hj h hb => by
  by_cases e : k' = k
  · subst e; exact (hD' _).2 (.inl (rd j hj hb))
  · exact (hD' _).2 (.inl (I.cl k' j hk' hj ((I.old A hk hD rd hD' hk' e).1 h) hb))
theorem Inv.sl' {w' : World} {F' : Nat → Prop} {μ' : Mu} {x : Value} (hv : ae w' F' μ' (T k).v x) (hold : ∀ {b : AV} {u : Value}, ae w F μ b u → ae w' F' μ' b u) (t : Nat) :
    (∃ j, j < n ∧ D' (T j).x.i ∧ (T j).x.o.dst = some t ∧ ae w' F' μ' (T j).v ((a.put (T k).x.o.dst x).tmps.getD t undef)) ∨ ((∀ j, j < n → D' (T j).x.i → (T j).x.o.dst ≠ some t) ∧ ae w' F' μ' (S 0 t) ((a.put (T k).x.o.dst x).tmps.getD t undef)) := by
  obtain ⟨dn, ok, _⟩ := A.tp k hk
  by_cases e : (T k).x.o.dst = some t
  · refine .inl ⟨k, hk, I.here A hk hD rd hD', e, ?_⟩
    rw [e]
    have hlt : t < nt := ok.dst t e
    have hnt : nt ≤ a.tmps.size := I.nt
    have hlt2 : t < a.tmps.size := Nat.lt_of_lt_of_le hlt hnt
    have : (a.put (some t) x).tmps.getD t undef = x := by
      simp only [Act.put, Array.getD_eq_getD_getElem?, Array.getElem?_setIfInBounds, if_true]
      rw [if_pos hlt2]; rfl
    rw [this]; exact hv
  · have hsame : (a.put (T k).x.o.dst x).tmps.getD t undef = a.tmps.getD t undef := by
      cases hd : (T k).x.o.dst with
      | none => rfl
      | some u =>
        have hne : u ≠ t := fun h => e (by rw [hd, h])
        simp only [Act.put, Array.getD_eq_getD_getElem?, Array.getElem?_setIfInBounds, if_neg hne]
    rw [hsame]
    rcases I.sl t with ⟨j, h1, h2, h3, h4⟩ | ⟨h1, h2⟩
    · exact .inl ⟨j, h1, (hD' _).2 (.inl h2), h3, hold h4⟩
    · refine .inr ⟨fun j hj hDj hdst => ?_, hold h2⟩
      by_cases ej : j = k
      · subst ej; exact e hdst
      · exact h1 j hj ((I.old A hk hD rd hD' hj ej).1 hDj) hdst
theorem Inv.low (hkd : (T k).kd ≤ 1) {x : Value} (hv : ae w F μ (T k).v x) : Inv V nt rb n T H S μ0 F0 w0 df D' q μ F (a.put (T k).x.o.dst x) w where
  cl := I.cl' A hk hD rd hD'
  wl := fun j hj e h => by
    have hne : j ≠ k := fun e2 => by rw [e2] at e; omega
    exact I.wl j hj e ((I.old A hk hD rd hD' hj hne).1 h)
  wq := I.wq.imp id fun ⟨j, h1, h2, h3, h4⟩ => ⟨j, h1, h2, h3, (hD' _).2 (.inl h4)⟩
  sl := I.sl' A hk hD rd hD' hv id
  hp := by
    obtain ⟨hS, h1, h2, h3, h4, h5⟩ := I.hp
    refine ⟨hS, h1, h2, h3, h4, fun b => ⟨fun j hj e hb => ?_, (h5 b).2⟩⟩
    have hne : j ≠ k := fun e2 => by rw [e2] at e; omega
    rw [I.old A hk hD rd hD' hj hne]
    exact (h5 b).1 j hj e hb
  un := fun j hj h => I.un j hj fun h' => h ((hD' _).2 (.inl h'))
  gn := I.gn
  ids := I.ids
  nt := by rw [(bL a _ x).1]; exact I.nt
  df := by rw [(bL a _ x).2]; exact I.df
theorem Inv.make (hkd : (T k).kd = 2) {hS hS' : Hp} (HS : au V μ F hS w) (ES : Ext μ0 F0 (H 0) w0 μ F hS w) (nS : hS.nx = (H q).nx) (pS : hS.pr = (H 0).pr) (sS : ∀ b, HSp rb n T H D q b (hS.at b)) {B : aX} (hB : br (H k) (bd rb T k) B (H (k + 1))) (hset : br hS (bd rb T k) B hS') (hnx : hS'.nx = hS.nx)
    {w' : World} {F' : Nat → Prop} {μ' : Mu} {x : Value} (hv : ae w' F' μ' (T k).v x) (hid : cI (bd rb T k) μ μ') (HS' : au V μ' F' hS' w') (E : Ext μ F hS w μ' F' hS' w') : Inv V nt rb n T H S μ0 F0 w0 df D' q μ' F' (a.put (T k).x.o.dst x) w' where
  cl := I.cl' A hk hD rd hD'
  wl := fun j hj e h => by
    have hne : j ≠ k := fun e2 => by rw [e2] at e; omega
    exact I.wl j hj e ((I.old A hk hD rd hD' hj hne).1 h)
  wq := I.wq.imp id fun ⟨j, h1, h2, h3, h4⟩ => ⟨j, h1, h2, h3, (hD' _).2 (.inl h4)⟩
  sl := I.sl' A hk hD rd hD' hv fun h => h.ext HS E
  hp := by
    refine ⟨hS', HS', ES.trans E, hnx.trans nS, hset.pr.trans pS, fun b => ⟨fun j hj e hb => ?_, fun hno => ?_⟩⟩
    · by_cases ej : j = k
      · subst ej
        subst hb
        rw [hset.same]
        refine ⟨fun _ => ⟨fun _ => .inl hB.same.symm, fun hkq => ?_⟩, fun h => absurd (I.here A hk hD rd hD') h⟩
        have := A.hidden hk (j := q) (by omega) (I.qn A) fun m h1 h2 h3 => by
          obtain ⟨dn, ok, hdn⟩ := A.tp m (by have := I.qn A; omega)
          rw [ok.cA h3]
          have hc : (T j).x.c = 2 := by rcases A.kd hk with h | h <;> omega
          exact dX.2 ⟨_, (hdn _).2 ⟨j, by omega, rfl⟩, rfl, hc, I.w2 A hk hD (by have := I.qn A; omega) (I.ran A h2 h3)⟩
        rw [this, hB.same]; exact BEq.refl B
      · have hne : b ≠ bd rb T k := fun e2 => ej (A.dU hj hk (hb.trans e2))
        rw [hset.ne hne, I.old A hk hD rd hD' hj ej]
        exact (sS b).1 j hj e hb
    · have hne : b ≠ bd rb T k := fun e2 => hno k hk hkd e2.symm
      rw [hset.ne hne]
      exact (sS b).2 hno
  un := fun j hj h => Classical.byContradiction fun hne => by
    rcases hid _ hne with h1 | h1
    · exact h1 (I.un j hj fun h' => h ((hD' _).2 (.inl h')))
    · have := A.dU hj hk h1
      subst this
      exact h (I.here A hk hD rd hD')
  gn := I.gn
  ids := fun b hb => (hid b hb).elim (I.ids b) fun e => .inr (by rw [e]; exact Nat.le_add_right _ _)
  nt := by rw [(bL a _ x).1]; exact I.nt
  df := by rw [(bL a _ x).2]; exact I.df
omit hD' in
theorem Inv.alike (hkd : (T k).kd = 3) {hS : Hp} (sS : ∀ b, HSp rb n T H D q b (hS.at b)) (b : Nat) (hno : ¬ ∃ j, j < n ∧ (T j).kd = 2 ∧ ¬ D (T j).x.i ∧ bd rb T j = b) : BEq (hS.at b) ((H k).at b) := by
  have hqk := I.w3 A hk hD hkd
  have hw := fun j => I.w1 A hk rd (j := j) (by rcases A.kd hk with h | h <;> omega)
  by_cases hm : ∃ j, j < n ∧ (T j).kd = 2 ∧ bd rb T j = b
  · obtain ⟨j, hj, hkj, hjb⟩ := hm
    have hDj : D (T j).x.i := Classical.byContradiction fun h => hno ⟨j, hj, hkj, h, hjb⟩
    have hother : ∀ m, m < n → (T m).kd = 2 → m ≠ j → bd rb T m ≠ b := fun m hm _ hne e => hne (A.dU hm hj (e.trans hjb.symm))
    have hne : j ≠ k := fun e => by rw [e] at hkj; omega
    have hjk : j < k := by
      by_cases e : j < k
      · exact e
      · exfalso
        rcases e9 (A.pair k j (by omega) hj).2.2 with h1 | h1 | h1
        · rw [I.w2 A hk hD hj hDj] at h1; cases h1
        · rcases A.kd hj with h2 | h2 <;> omega
        · rcases A.kd hk with h2 | h2 <;> omega
    have hX := ((sS b).1 j hj hkj hjb).1 hDj
    by_cases hqj : q ≤ j
    · rw [I.bS A hqk (by omega) hw (j := j + 1) (by omega) (by omega) fun m h1 h2 h3 => hother m (by omega) h3 (by omega)]
      exact hX.1 hqj
    · rw [I.bS A hqk (by omega) hw (Nat.le_refl q) hqk fun m h1 h2 h3 => hother m (by omega) h3 (by omega)]
      exact hX.2 (by omega)
  · rw [I.bS A hqk (by omega) hw (Nat.le_refl q) hqk fun m h1 h2 h3 e => hm ⟨m, by omega, h3, e⟩]
    exact (sS b).2 fun j hj hkj e => hm ⟨j, hj, hkj, e⟩
omit hD' in
theorem Inv.unrun (hkd : (T k).kd = 3) {j : Nat} (hj : j < n) (hkj : (T j).kd = 2) (hDj : ¬ D (T j).x.i) : (j < k ∧ (T j).x.i ∈ (T k).A) ∨ (k < j ∧ ((H k).at (bd rb T j)).gone) := by
  have hne : j ≠ k := fun e => by rw [e] at hkj; omega
  by_cases hjk : j < k
  · left
    refine ⟨hjk, ?_⟩
    obtain ⟨dn, ok, hdn⟩ := A.tp k hk
    rw [ok.cA hkd]
    refine dX.2 ⟨_, (hdn _).2 ⟨j, hjk, rfl⟩, rfl, by rcases A.kd hj with h | h <;> omega, ?_⟩
    cases hb : bit (T k).x.m (T j).x.i with
    | false => rfl
    | true => exact absurd (rd j hj hb) hDj
  · right
    have hqk := I.w3 A hk hD hkd
    have hw := fun j => I.w1 A hk rd (j := j) (by rcases A.kd hk with h | h <;> omega)
    refine ⟨by omega, ?_⟩
    have hg := I.gn j hj hkj
    rw [Nat.min_eq_left (by omega)] at hg
    rw [I.bS A hqk (by omega) hw (Nat.le_refl q) hqk fun m h1 h2 h3 e => absurd (A.dU (by omega) hj e) (by omega)]
    exact hg
omit hD' in
theorem Inv.hidA (hkd : (T k).kd = 3) {hS : Hp} (sS : ∀ b, HSp rb n T H D q b (hS.at b)) (b : Nat) : ((T k).hA.at b).gone ∨ (T k).hA.at b = hS.at b := by
  have hw := A.wrap hk hkd
  have n4 := (A.lr hk).1
  by_cases hA : ∃ i ∈ (T k).A, b = (H k).rb + i
  · rw [hw.ain b hA]; exact .inl trivial
  · rw [hw.aout b hA]
    by_cases hno : ∃ j, j < n ∧ (T j).kd = 2 ∧ ¬ D (T j).x.i ∧ bd rb T j = b
    · obtain ⟨j, hj, hkj, hDj, rfl⟩ := hno
      rcases I.unrun A hk hD rd hkd hj hkj hDj with ⟨_, h⟩ | ⟨_, h⟩
      · exact absurd ⟨_, h, by rw [n4]⟩ hA
      · exact .inl h
    · rcases I.alike A hk hD rd hkd sS b hno with h | ⟨_, h⟩
      · exact .inr h.symm
      · exact .inl h
open Classical in
theorem Inv.write (hkd : (T k).kd = 3) {hS : Hp} (HS : au V μ F hS w) (ES : Ext μ0 F0 (H 0) w0 μ F hS w) (nS : hS.nx = (H q).nx) (pS : hS.pr = (H 0).pr) (sS : ∀ b, HSp rb n T H D q b (hS.at b)) (HA : au V μ F (T k).hA w)
    {w' : World} {F' : Nat → Prop} {μ' : Mu} {x : Value} (hv : ae w' F' μ' (T k).v x) (hid : dO (bd rb T k) (T k).hA μ μ') (HB : au V μ' F' (T k).hB w') (E : Ext μ F (T k).hA w μ' F' (T k).hB w') : Inv V nt rb n T H S μ0 F0 w0 df D' (k + 1) μ' F' (a.put (T k).x.o.dst x) w' := by
  have hw := A.wrap hk hkd
  have n4 := (A.lr hk).1
  have hqk := I.w3 A hk hD hkd
  have hw1 := fun j => I.w1 A hk rd (j := j) (by rcases A.kd hk with h | h <;> omega)
  have hprk : (H k).pr = (H 0).pr := (A.mono (Nat.zero_le k) (by omega)).2
  have later : ∀ j, j < n → (T j).kd = 2 → k < j → ¬ D' (T j).x.i := fun j hj hkj hkj2 h => by
    have hDj := (I.old A hk hD rd hD' hj (by omega)).1 h
    rcases e9 (A.pair k j hkj2 hj).2.2 with h1 | h1 | h1
    · rw [I.w2 A hk hD hj hDj] at h1; cases h1
    · rcases A.kd hj with h2 | h2 <;> omega
    · rcases A.kd hk with h2 | h2 <;> omega
  have un' : ∀ j, j < n → ¬ D' (T j).x.i → μ' (bd rb T j) = none := fun j hj h => Classical.byContradiction fun hne => by
    rcases hid _ hne with h1 | h1 | h1
    · exact h1 (I.un j hj fun h' => h ((hD' _).2 (.inl h')))
    · have := A.dU hj hk h1
      subst this
      exact h (I.here A hk hD rd hD')
    · rw [hw.anx] at h1
      have h2 := (A.lr hk).2
      have h3 := (A.op j hj).2.2.2
      unfold bd at h1; omega
  let f : Nat → aX := fun b => if ∃ j, j < n ∧ (T j).kd = 2 ∧ ¬ D' (T j).x.i ∧ bd rb T j = b then .dead else (H (k + 1)).at b
  obtain ⟨hS', s1, s2, s3, s4⟩ := a0P (T k).hB f (T k).hB.nx hS.pr hS.rb ((T k).A.map (fun i => (H k).rb + i) ++ (T k).pl ++ (List.range n).map (bd rb T))
  have hf : ∀ b, hS'.at b = f b := fun b => by
    by_cases hb : b ∈ (T k).A.map (fun i => (H k).rb + i) ++ (T k).pl ++ (List.range n).map (bd rb T)
    · exact (s4 b).1 hb
    · rw [(s4 b).2 hb]
      rw [List.mem_append, List.mem_append, not_or, not_or] at hb
      have h1 : ¬ ∃ j, j < n ∧ (T j).kd = 2 ∧ ¬ D' (T j).x.i ∧ bd rb T j = b := fun ⟨j, hj, _, _, e⟩ => hb.2 (List.mem_map.2 ⟨j, List.mem_range.2 hj, e⟩)
      show (T k).hB.at b = if _ then _ else _
      rw [if_neg h1]
      exact (hw.kout b (fun ⟨i, hi, e⟩ => hb.1.1 (List.mem_map.2 ⟨i, hi, e.symm⟩)) hb.1.2).symm
  have hAS := I.hidA A hk hD rd hkd sS
  obtain ⟨HS', ES'⟩ := au.frame HS HA HB E (hS' := hS') (fun b hg => (hAS b).resolve_left hg) (fun b hb => by rw [hw.apr, hprk, ← pS]; exact List.mem_append_right _ hb) (by rw [nS, hw.anx]; exact (A.mono hqk (by omega)).1) s1 s2 s3 (fun b => by
    rw [hf b]
    by_cases h1 : ∃ j, j < n ∧ (T j).kd = 2 ∧ ¬ D' (T j).x.i ∧ bd rb T j = b
    · left
      show (if _ then aX.dead else _ : aX).gone
      rw [if_pos h1]; trivial
    · have hfb : f b = (H (k + 1)).at b := if_neg h1
      rw [hfb]
      by_cases hA : ∃ i ∈ (T k).A, b = (H k).rb + i
      · -- put away
        have hback : (H (k + 1)).at b = (H k).at b := by
          by_cases hp : b ∈ (T k).pl
          · exact (hw.pin b hA hp).self
          · exact hw.kin b hA hp
        rw [hback]
        have halike := I.alike A hk hD rd hkd sS b fun ⟨j, hj, hkj, hDj, e⟩ => h1 ⟨j, hj, hkj, fun h => hDj ((I.old A hk hD rd hD' hj (fun e2 => by rw [e2] at hkj; omega)).1 h), e⟩
        rcases halike with h | ⟨_, h⟩
        · exact .inr (.inr (.inl ⟨h.symm, by rw [hw.ain b hA]; trivial⟩))
        · exact .inl h
      · by_cases hp : b ∈ (T k).pl
        · refine .inr (.inr (.inr ⟨by rw [hw.apr]; exact List.mem_append_left _ hp, ?_⟩))
          rw [hw.aout b hA]; exact hw.pout b hA hp
        · refine .inr (.inl ⟨hw.kout b hA hp, fun h => ?_⟩)
          rw [hw.apr, hprk, ← pS] at h
          exact (List.mem_append.1 h).resolve_left hp)
  refine ⟨I.cl' A hk hD rd hD', fun j hj e h => ?_, .inr ⟨k, rfl, hk, hkd, I.here A hk hD rd hD'⟩, I.sl' A hk hD rd hD' hv fun h => h.ext HA E, ⟨hS', HS', ES.trans ES', s1.trans hw.nx.symm, s2.trans pS, fun b => ⟨fun j hj e hb => ⟨fun hDj => ⟨fun hle => ?_, fun hlt => ?_⟩, fun hDj => ?_⟩, fun hno => ?_⟩⟩, un', fun j hj hkj => ?_, fun b hb => ?_, by rw [(bL a _ x).1]; exact I.nt, by rw [(bL a _ x).2]; exact I.df⟩
  · by_cases ej : j = k
    · omega
    · have := I.wl j hj e ((I.old A hk hD rd hD' hj ej).1 h); omega
  · exact absurd hDj (later j hj e (by omega))
  · rw [hf b]
    have h1 : ¬ ∃ j, j < n ∧ (T j).kd = 2 ∧ ¬ D' (T j).x.i ∧ bd rb T j = b := fun ⟨j', hj', _, hD2, e2⟩ => by
      have := A.dU hj' hj (e2.trans hb.symm)
      subst this; exact hD2 hDj
    show BEq (if _ then _ else _) _
    rw [if_neg h1]; exact BEq.refl _
  · rw [hf b]
    show (if _ then aX.dead else _ : aX).gone
    rw [if_pos ⟨j, hj, e, hDj, hb⟩]; trivial
  · rw [hf b]
    show BEq (if _ then _ else _) _
    rw [if_neg (fun ⟨j, hj, hkj, _, e⟩ => hno j hj hkj e)]; exact BEq.refl _
  · -- free numbers
    have hne : j ≠ k := fun e => by rw [e] at hkj; omega
    have hg := I.gn j hj hkj
    by_cases hjk : j < k
    · rw [Nat.min_eq_right (by omega)]
      by_cases hjq : j ≤ q
      · rw [Nat.min_eq_right hjq] at hg; exact hg
      · rw [Nat.min_eq_left (by omega)] at hg
        have := I.bS A (k := j) (by omega) (by omega) (fun m h1 h2 => hw1 m (by omega) h2) (Nat.le_refl q) (by omega) (b := bd rb T j) fun m h1 h2 h3 e => absurd (A.dU (by omega) hj e) (by omega)
        rw [this]; exact hg
    · rw [Nat.min_eq_left (by omega)]
      have hgk : ((H k).at (bd rb T j)).gone := by
        rw [Nat.min_eq_left (by omega)] at hg
        rw [I.bS A hqk (by omega) hw1 (Nat.le_refl q) hqk fun m h1 h2 h3 e => absurd (A.dU (by omega) hj e) (by omega)]
        exact hg
      have hnA : ¬ ∃ i ∈ (T k).A, bd rb T j = (H k).rb + i := fun ⟨i, hi, e⟩ => by
        obtain ⟨dn, ok, hdn⟩ := A.tp k hk
        rw [ok.cA hkd] at hi
        obtain ⟨y, hy, hyi, _⟩ := dX.1 hi
        obtain ⟨m, hm, hmy⟩ := (hdn y).1 hy
        have : (T m).x.i = (T j).x.i := by rw [hmy, hyi]; rw [n4] at e; unfold bd at e; omega
        have := A.inj m j (by omega) hj this
        omega
      have hnp : bd rb T j ∉ (T k).pl := fun hp => k8 hgk (hw.pout _ hnA hp).live.1
      rw [hw.kout _ hnA hnp]
      have hμ := un' j hj (later j hj hkj (by omega))
      exact Classical.byContradiction fun hng => by
        obtain ⟨m, hm⟩ := (HB.aF (bd rb T j)).some hng
        rw [hμ] at hm; cases hm
  · rcases hid b hb with h | h | h
    · exact I.ids b h
    · exact .inr (by rw [h]; exact Nat.le_add_right _ _)
    · refine .inr ?_
      rw [hw.anx] at h
      have := (A.lr hk).2
      omega
end
theorem nK {α : Type} {p p' : α → Bool} (hpp : ∀ x, p' x = true → p x = true) : ∀ {l : List α}, l.countP p' ≤ l.countP p ∧ ∀ {x : α}, x ∈ l → p x = true → p' x = false → l.countP p' < l.countP p
  | [] => ⟨Nat.le_refl _, fun h => by cases h⟩
  | y :: l => by
    obtain ⟨h1, h2⟩ := nK hpp (l := l)
    rw [List.countP_cons, List.countP_cons]
    refine ⟨?_, fun {x} hx hp hp' => ?_⟩
    · by_cases e : p' y = true
      · rw [if_pos e, if_pos (hpp y e)]; omega
      · rw [if_neg e]; omega
    · rcases List.mem_cons.1 hx with rfl | hx
      · rw [hp, hp']; simp; omega
      · have := h2 hx hp hp'
        by_cases e : p' y = true
        · rw [if_pos e, if_pos (hpp y e)]; omega
        · rw [if_neg e]; omega
section
variable {V : Env} {ops : Array Oper} {nt rb : Nat} {all : List Dr} {T : Nat → TP} {H : Nat → Hp} {S : Nat → Nat → AV} (A : fj V ops nt rb ops.size all T H S) (hb : fZ ops.toList 0 = true)
  {μ0 : Mu} {F0 : Nat → Prop} {w0 : World} {df : List Deferred} {Q : Exit → Act → World → Prop} {r : Option Nat} {m : Nat}
include A hb
theorem a0g (hQ : ∀ (D : Nat → Prop) q μ F a w, Inv V nt rb ops.size T H S μ0 F0 w0 df D q μ F a w → (∀ i, i < ops.size → D i) → Q .normal a w) : ∀ (fuel : Nat) (listed : Array Bool) (q : Nat) (μ : Mu) (F : Nat → Prop) (a : Act) (w : World), listed.size = ops.size → (List.range ops.size).countP (fun i => !listed.getD i false) ≤ fuel →
    Inv V nt rb ops.size T H S μ0 F0 w0 df (fun i => listed.getD i false = true) q μ F a w → wpAnyIn (Wf r) m V.P .any ops Q fuel listed a w := by
  have ready : ∀ {listed : Array Bool} {i : Nat}, i ∈ Region.ready .any ops listed ↔ listed.getD i true = false ∧ ∃ o, ops[i]? = some o ∧ ∀ e ∈ o.after, Region.binds .any e = true → listed.getD e.on false = true := fun {listed i} => mem_ready
  have getT : ∀ {listed : Array Bool} {i : Nat}, listed.getD i true = false → i < listed.size ∧ listed.getD i false = false := fun {listed i} h => by
    rw [Array.getD_eq_getD_getElem?] at h
    cases hx : listed[i]? with
    | none => rw [hx] at h; cases h
    | some b =>
      rw [hx] at h
      refine ⟨(Array.getElem?_eq_some_iff.1 hx).1, ?_⟩
      rw [Array.getD_eq_getD_getElem?, hx]; exact h
  have getF : ∀ {listed : Array Bool} {i : Nat}, listed.size = ops.size → i < ops.size → listed.getD i false ≠ true → listed.getD i true = false := fun {listed i} hs hi h => by
    rw [Array.getD_eq_getD_getElem?] at h ⊢
    cases hx : listed[i]? with
    | none => rw [Array.getElem?_eq_none_iff] at hx; omega
    | some b => rw [hx] at h; cases b with | false => rfl | true => exact absurd rfl h
  have all' : ∀ {listed : Array Bool}, listed.size = ops.size → Region.ready .any ops listed = [] → ∀ i, i < ops.size → listed.getD i false = true := fun {listed} hs hr i => by
    induction i using Nat.strongRecOn with
    | _ i ih =>
      intro hi
      exact Classical.byContradiction fun h => by
        have hmem : i ∈ Region.ready .any ops listed := ready.2 ⟨getF hs hi h, ops[i], Array.getElem?_eq_getElem hi, fun e he hbi => by
          have hlt := iD hb i ops[i] (by rw [Array.getElem?_toList, Array.getElem?_eq_getElem hi]) e (by simpa using he) hbi
          exact ih e.on (by omega) (by omega)⟩
        rw [hr] at hmem; cases hmem
  intro fuel
  induction fuel with
  | zero =>
    intro listed q μ F a w hs hc I
    have hall : ∀ i, i < ops.size → listed.getD i false = true := fun i hi => by
      have h0 := List.countP_eq_zero.1 (Nat.le_zero.1 hc) i (List.mem_range.2 hi)
      simpa using h0
    refine ⟨?_, hQ _ q μ F a w I hall⟩
    cases hr : Region.ready .any ops listed with
    | nil => rfl
    | cons i l =>
      exfalso
      have hi : i ∈ Region.ready .any ops listed := by rw [hr]; exact List.mem_cons_self ..
      obtain ⟨h1, _⟩ := ready.1 hi
      obtain ⟨h2, h3⟩ := getT h1
      rw [hall i (by omega)] at h3; cases h3
  | succ fuel ih =>
    intro listed q μ F a w hs hc I
    refine ⟨fun hr => hQ _ q μ F a w I (all' hs hr), fun i hi => ?_⟩
    obtain ⟨h1, o, ho, hon⟩ := ready.1 hi
    obtain ⟨hilt, hiF⟩ := getT h1
    rw [hs] at hilt
    obtain ⟨k, hk, rfl⟩ := A.surj i hilt
    obtain ⟨op1, op2, op3, _⟩ := A.op k hk
    rw [ho] at op1
    have hoo : o = (T k).x.o := Option.some.inj op1
    subst hoo
    have hD : ¬ listed.getD (T k).x.i false = true := by rw [hiF]; simp
    have rd : ∀ j, j < ops.size → bit (T k).x.m (T j).x.i = true → listed.getD (T j).x.i false = true := fun j hj hbit => by
      rw [op2] at hbit
      obtain ⟨e, e1, e2, e3, e4⟩ := a4S hb ho hbit
      have hDe := hon e (by simpa using e1) e2
      rcases e4 with e4 | e4
      · rw [e4]; exact hDe
      · obtain ⟨k', hk', hke⟩ := A.surj e.on (by omega)
        refine I.cl k' j hk' hj (by rw [hke]; exact hDe) ?_
        rw [(A.op k' hk').2.1, hke]; exact e4
    have hD' : ∀ j, (listed.setIfInBounds (T k).x.i true).getD j false = true ↔ listed.getD j false = true ∨ j = (T k).x.i := fun j => by
      rw [Array.getD_eq_getD_getElem?, Array.getElem?_setIfInBounds]
      by_cases e : (T k).x.i = j
      · subst e
        rw [if_pos rfl, if_pos (by omega)]
        exact ⟨fun _ => .inr rfl, fun _ => rfl⟩
      · rw [if_neg e, ← Array.getD_eq_getD_getElem?]
        exact ⟨.inl, fun h => h.resolve_right fun h2 => e h2.symm⟩
    have hs' : (listed.setIfInBounds (T k).x.i true).size = ops.size := by rw [Array.size_setIfInBounds, hs]
    have hc' : (List.range ops.size).countP (fun i => !(listed.setIfInBounds (T k).x.i true).getD i false) ≤ fuel := by
      have := (nK (p := fun i => !listed.getD i false) (p' := fun i => !(listed.setIfInBounds (T k).x.i true).getD i false) (fun x hx => by
        have hx' : ¬ (listed.setIfInBounds (T k).x.i true).getD x false = true := by simpa using hx
        rw [hD'] at hx'
        have : ¬ listed.getD x false = true := fun h => hx' (.inl h)
        simpa using this) (l := List.range ops.size)).2 (List.mem_range.2 hilt) (by rw [hiF]; rfl) (by rw [(hD' _).2 (.inr rfl)]; rfl)
      omega
    have next := fun {q μ F a w} I' => ih (listed.setIfInBounds (T k).x.i true) q μ F a w hs' hc' I'
    obtain ⟨dn, ok, _⟩ := A.tp k hk
    obtain ⟨hS, HS, ES, nS, pS, sS⟩ := I.hp
    have hslot : ∀ t, t ∈ dE ops (T k).x.o → ae w F μ ((T k).σ t) (a.tmps.getD t undef) := fun t ht => by
      rw [(A.sk k hk).1]
      exact I.slot A hk hD rd (by rw [op3]; exact ht)
    have hO : iC w F μ (T k).O (T k).x.o.op.operands.toList a.eval := fun x hx => ok.oo x HS.jk fun t e => hslot t (mem_reads (.inl (e ▸ hx)))
    have HA : (T k).kd = 3 → au V μ F (T k).hA w := fun e => HS.sub (I.hidA A hk hD rd e sS) (by rw [nS, (A.wrap hk e).anx]; exact (A.mono (I.w3 A hk hD e) (by omega)).1)
    refine ok.step.wpS (hS := hS) ho hO (fun j want t hg hd => by rw [ok.os]; exact hslot t (mem_reads (.inr ⟨j, want, hg, hd⟩))) (I.un k hk hD) HS ?_ (fun e p hsp hm hl => ?_) HA (fun e x hv => next (I.low A hk hD rd hD' e hv)) (fun e B hB hS' x w' μ' F' hset hnx hv hid HS' E => ?_) (fun e x w' μ' F' hv hid HB E => next (I.write A hk hD rd hD' e HS ES nS pS sS (HA e) hv hid HB E))
    · rw [nS]
      have h1 := (A.lr (k := 0) (by omega)).2
      have h2 := (A.mono (Nat.zero_le q) (I.qn A)).1
      have h3 := (A.op k hk).2.2.2
      omega
    · have eA := (A.low hk (by omega)).1
      rw [eA] at hl ⊢
      exact I.read A hk hD rd HS sS e hsp hl (hO p hm)
    · obtain ⟨eA, eB, _⟩ := A.low hk (by omega)
      rw [eA, eB] at hB
      exact next (I.make A hk hD rd hD' e HS ES nS pS sS hB hset hnx hv hid HS' E)
end
theorem kT : ∀ (n D : Nat) (l : List Dr), (l.map (·.i)).Nodup → ((order n D l).map (·.i)).Nodup
  | 0, D, l, _ => List.nodup_nil
  | n + 1, D, l, hn => by
    have e0 : order (n + 1) D l = Option.rec (motive := fun _ => List Dr) [] (fun x => x :: order n (Nat.lor D (Nat.pow 2 x.i)) (bf x.i l)) (jy D l (jx D l)) := rfl
    cases hp : jy D l (jx D l) with
    | none => rw [e0, hp]; exact List.nodup_nil
    | some z =>
      have e1 : order (n + 1) D l = z :: order n (D ||| 2 ^ z.i) (bf z.i l) := by rw [e0, hp]; rfl
      have hw : ((bf z.i l).map (·.i)).Nodup := hn.sublist ((eH l).map _)
      rw [e1, List.map_cons, List.nodup_cons]
      refine ⟨fun hm => ?_, kT n _ _ hw⟩
      obtain ⟨y, hy, e⟩ := List.mem_map.1 hm
      obtain ⟨k, hk, hky⟩ := List.getElem_of_mem hy
      have := (fG n (D ||| 2 ^ z.i) (bf z.i l) hw k y (by rw [List.getElem?_eq_getElem hk, hky])).1
      exact gI hn this e
theorem Ext.congr {μ μ' : Mu} {F F' : Nat → Prop} {h h1 h2 : Hp} {w w' : World} (E : Ext μ F h w μ' F' h1 w') (he : ∀ b, BEq (h1.at b) (h2.at b)) (hp : h2.pr = h1.pr) (hn : h1.nx ≤ h2.nx) (hr : h2.rb = h.rb) : Ext μ F h w μ' F' h2 w' :=
  ⟨E.mu, E.fr, E.size, E.keep, fun B ⟨b, m, q1, q2, q3, q4⟩ => E.own B ⟨b, m, (he b).symm.wr q1, by rw [← hp]; exact q2, q3, q4⟩, fun B ⟨b, m, q1, q3, q4⟩ => E.wb B ⟨b, m, (he b).symm.wr q1, q3, q4⟩, E.iq, E.eW, Nat.le_trans E.nx hn, hp.trans E.pr, hr, E.io⟩
section
variable {C : Cx} {vs : Vs} {R : ab} (ok : aT C.M) (hR : R ≠ .fail) {ops : Array Oper}
include ok hR
theorem uu (hc : fh C (C.env vs)) (hgl : ly C vs) (hm : C.P.follows .mixedOrders = true) {s0 : ek} {k : G → Sm} {Q : Exit → Act → World → Prop} {r : Option Nat} {n rid : Nat} {g : G} {sk : Row} {fr : Fr} {hp : Hp} {μ : Mu} {F : Nat → Prop} {a : Act} {w : World}
    (h : (oR C ops g k).run sk fr hp = R) (St0 : St C (C.env vs) s0 g sk fr hp μ F a w)
    (hQ : ∀ g' sk' fr' hp' μ' F' a' w', (k g').run sk' fr' hp' = R → St C (C.env vs) s0 g' sk' fr' hp' μ' F' a' w' → bR μ F hp w μ' F' hp' w' → Q .normal a' w') : (Code.region rid ops true).wpIn (Wf r) n C.P Q a w := by
  refine wpIn_region_any hm ?_
  have h1 : (Bool.rec (motive := fun _ => Sm) aP (⟨fun sk fr hp => Hp.rec (motive := fun _ => ab) (fun t nx pr _ => aA nx fun nx => aA (Nat.add nx ops.size) fun m => (qO C ops (order ops.size 0 (pM C.P ops ops.toList (jB (cC ops.toList [] 0) []) 0)) (order ops.size 0 (pM C.P ops ops.toList (jB (cC ops.toList [] 0) []) 0)) g k []).run sk fr ⟨t, m, pr, nx⟩) hp⟩ : Sm)
    (az (fZ ops.toList 0) (jZ (order ops.size 0 (pM C.P ops ops.toList (jB (cC ops.toList [] 0) []) 0)) ops.size)) : Sm).run sk fr hp = R := h
  generalize hl : order ops.size 0 (pM C.P ops ops.toList (jB (cC ops.toList [] 0) []) 0) = l at h1
  cases hbd : az (fZ ops.toList 0) (jZ l ops.size) with
  | false => rw [hbd] at h1; exact aa hR h1
  | true =>
    rw [hbd] at h1
    rw [aB] at hbd
    obtain ⟨hb, hd⟩ := hbd
    have h2 : aA hp.nx (fun nx => aA (Nat.add nx ops.size) fun m => (qO C ops l l g k []).run sk fr ⟨hp.t, m, hp.pr, nx⟩) = R := h1
    rw [aw, aw] at h2
    have hids : ((pM C.P ops ops.toList (jB (cC ops.toList [] 0) []) 0).map (·.i)).Nodup := by rw [je]; exact List.nodup_range'
    obtain ⟨ts, g', sk', fr', hp', q1, q2, q3⟩ := nM (vs := vs) ok hR hc hgl (all := l) (rb := hp.nx) (n := ops.size) l St0.gi (fun x hx => by
      rw [← hl] at hx
      obtain ⟨j, hj, e⟩ := List.getElem_of_mem hx
      have hm := (fG ops.size 0 _ hids j x (by rw [List.getElem?_eq_getElem hj, e])).1
      obtain ⟨j', o, e1, e2⟩ := oT hm
      rw [e2]
      refine ⟨?_, rfl⟩
      show 0 + j' < ops.size
      have := (List.getElem?_eq_some_iff.1 e1).1
      simpa using this) rfl (Nat.le_refl _) (by
      rw [List.map_nil, List.append_nil, ← hl]; exact kT _ _ _ hids) h2
    obtain ⟨T, H, S, A, eH0, eHn, eS0, eSn⟩ := q3.plan (hl.symm) hd
    have hw : au (C.env vs) μ F hp { w with drawn := w.drawn + 1 } := (St0.h.world (w' := { w with drawn := w.drawn + 1 }) rfl).1
    have hH0at : ∀ b, (H 0).at b = hp.at b := fun b => by rw [eH0]
    have H0 : au (C.env vs) μ F (H 0) { w with drawn := w.drawn + 1 } := hw.sub (fun b => .inr (hH0at b)) (by rw [eH0]; exact Nat.le_add_right _ _)
    have hfree : ∀ k, k < ops.size → μ (bd hp.nx T k) = none := fun k hk => by
      cases hx : μ (bd hp.nx T k) with
      | none => rfl
      | some m => exact absurd (St0.h.et _ m hx).1 (Nat.not_lt.2 (Nat.le_add_right _ _))
    have hgone : ∀ k, k < ops.size → ((H 0).at (bd hp.nx T k)).gone := fun k hk => Classical.byContradiction fun hng => by
      obtain ⟨m, hm⟩ := (H0.aF (bd hp.nx T k)).some hng
      rw [hfree k hk] at hm; cases hm
    have hnone : ∀ i, ¬ (Array.replicate ops.size false).getD i false = true := fun i => by
      rw [Array.getD_eq_getD_getElem?, Array.getElem?_replicate]
      split <;> simp
    refine a0g (V := C.env vs) (μ0 := μ) (F0 := F) (w0 := { w with drawn := w.drawn + 1 }) (df := a.defers) A hb (fun D q μ' F' a' w' I hall => ?_) ops.size _ 0 μ F a _ (by simp) (by
      have : (List.range ops.size).countP (fun i => !(Array.replicate ops.size false).getD i false) ≤ (List.range ops.size).length := List.countP_le_length
      simpa using this) ⟨fun k j _ _ h => absurd h (hnone _), fun k _ _ h => absurd h (hnone _), .inl rfl, fun t => .inr ⟨fun k _ h => absurd h (hnone _), by rw [eS0]; exact ae.mono (w := w) (w' := { w with drawn := w.drawn + 1 }) (F := F) (F' := F) (fun _ _ => rfl) (fun _ h => h) (St0.sl t) (fun _ _ h => h)⟩, ⟨H 0, H0, Ext.refl _ _ _ _, rfl, rfl, fun b => ⟨fun k hk _ e => ⟨fun h => absurd h (hnone _), fun _ => e ▸ hgone k hk⟩, fun _ => BEq.refl _⟩⟩, fun k hk _ => hfree k hk, fun k hk _ => by rw [Nat.zero_min]; exact hgone k hk, fun b h => .inl h, St0.nt, rfl⟩
    obtain ⟨hS, HS, ES, nS, pS, sS⟩ := I.hp
    have hqn := I.qn A
    have hwr : ∀ j, j < ops.size → (T j).kd = 3 → j < q := fun j hj e => I.wl j hj e (hall _ (A.op j hj).2.2.2)
    have hbeq : ∀ b, BEq (hS.at b) ((H ops.size).at b) := fun b => by
      by_cases hmk : ∃ j, j < ops.size ∧ (T j).kd = 2 ∧ bd hp.nx T j = b
      · obtain ⟨j, hj, hkj, hjb⟩ := hmk
        have hX := ((sS b).1 j hj hkj hjb).1 (hall _ (A.op j hj).2.2.2)
        have hother : ∀ m, m < ops.size → (T m).kd = 2 → m ≠ j → bd hp.nx T m ≠ b := fun m hm _ hne e => hne (A.dU hm hj (e.trans hjb.symm))
        by_cases hqj : q ≤ j
        · rw [I.bS A (k := ops.size) hqn (Nat.le_refl _) hwr (j := j + 1) (by omega) (by omega) fun m h1 h2 h3 => hother m h2 h3 (by omega)]
          exact hX.1 hqj
        · rw [I.bS A (k := ops.size) hqn (Nat.le_refl _) hwr (Nat.le_refl q) hqn fun m h1 h2 h3 => hother m h2 h3 (by omega)]
          exact hX.2 (by omega)
      · rw [I.bS A (k := ops.size) hqn (Nat.le_refl _) hwr (Nat.le_refl q) hqn fun m h1 h2 h3 e => hmk ⟨m, h2, h3, e⟩]
        exact (sS b).2 fun j hj hkj e => hmk ⟨j, hj, hkj, e⟩
    have hnxn : hS.nx ≤ (H ops.size).nx := by rw [nS]; exact (A.mono hqn (Nat.le_refl _)).1
    have hprn : (H ops.size).pr = hS.pr := by rw [pS]; exact (A.mono (Nat.zero_le _) (Nat.le_refl _)).2
    have HN : au (C.env vs) μ' F' (H ops.size) w' := HS.congr hbeq hnxn
    have EN : Ext μ F hp w μ' F' ((H ops.size).lr hp.rb) w' := by
      have e1 : Ext μ F (H 0) { w with drawn := w.drawn + 1 } μ' F' ((H ops.size).lr (H 0).rb) w' := ES.congr hbeq hprn hnxn rfl
      refine ⟨e1.mu, e1.fr, e1.size, fun B hB ho => e1.keep B hB fun ⟨b, m, o1, o2, o3, o4⟩ => ho ⟨b, m, by rw [← hH0at]; exact o1, by rw [eH0] at o2; exact o2, o3, o4⟩, fun B hB => (e1.own B hB).imp id fun ⟨b, m, o1, o2, o3, o4⟩ => ⟨b, m, by rw [← hH0at]; exact o1, by rw [eH0] at o2; exact o2, o3, o4⟩, fun B hB => (e1.wb B hB).imp id fun ⟨b, m, o1, o3, o4⟩ => ⟨b, m, by rw [← hH0at]; exact o1, o3, o4⟩, fun B hB => (e1.iq B hB).imp id fun h => h.imp id fun ⟨b, m, o1, o3, o4⟩ => ⟨b, m, by rw [← hH0at]; exact o1, o3, o4⟩, fun b m hm => (e1.eW b m hm).imp id fun ⟨z1, z2⟩ => ⟨z1, z2.imp id fun ⟨b, m, o1, o2, o3, o4⟩ => ⟨b, m, by rw [← hH0at]; exact o1, by rw [eH0] at o2; exact o2, o3, o4⟩⟩, ?_, ?_, rfl, e1.io⟩
      · have := e1.nx
        rw [eH0] at this
        exact Nat.le_trans (Nat.le_add_right _ _) this
      · have := e1.pr
        rw [eH0] at this
        exact this
    rw [eHn] at HN EN
    have EC : bR μ F hp w μ' F' hp' w' := ⟨EN, I.ids⟩
    refine hQ g' sk' fr' hp' μ' F' a' w' q1 ⟨q2, fun t => ?_, HN, I.nt, by rw [I.df]; exact (St0.df.ext EC.ext).lr⟩ EC
    rw [← eSn]
    rcases I.sl t with ⟨j, hj, hDj, hdst, hcj⟩ | ⟨hno, hcj⟩
    · have hs : S (j + 1) t = (T j).v := (A.slot hj t).1 hdst
      rcases A.fg (j := j + 1) (t := t) (k := ops.size) (by omega) (Nat.le_refl _) (fun m h1 h2 => (fJ (A.pair j m (by omega) h2).1 hdst).1) with h | h
      · rw [h, hs]; exact hcj
      · rw [h]; exact .uu _
    · rcases A.fg (j := 0) (t := t) (k := ops.size) (Nat.zero_le _) (Nat.le_refl _) (fun m _ h2 => hno m h2 (hall _ (A.op m h2).2.2.2)) with h | h
      · rw [h]; exact hcj
      · rw [h]; exact .uu _
end
theorem rT {p : Nat → Prop} (h : ∃ n, p n) : ∃ n, p n ∧ ∀ m, p m → n ≤ m := by
  obtain ⟨n, hn⟩ := h
  induction n using Nat.strongRecOn with
  | _ n ih =>
    by_cases h : ∃ m, m < n ∧ p m
    · obtain ⟨m, hm, hp⟩ := h; exact ih m hm hp
    · exact ⟨n, hn, fun m hm => Nat.le_of_not_lt fun hlt => h ⟨m, hlt, hm⟩⟩
open Classical in
noncomputable def least (p : Nat → Prop) : Nat := if h : ∃ n, p n then Classical.choose (rT h) else 0
theorem mi {p : Nat → Prop} {n : Nat} (h : p n) : p (least p) ∧ least p ≤ n := by
  have he : ∃ n, p n := ⟨n, h⟩
  unfold least
  rw [dif_pos he]
  obtain ⟨h1, h2⟩ := Classical.choose_spec (rT he)
  exact ⟨h1, h2 n h⟩
theorem mX {Fc : Fence} {n : Nat} {P : Program} {c : Code} {Q : Exit → Act → World → Prop} (J : Nat → Act → World → Prop) (h0 : ∀ a w, ¬ J 0 a w) (round : ∀ N a w, J (N + 1) a w → c.wpIn Fc n P (Exit.then (J N) Q) a w) {N : Nat} {a : Act} {w : World} (h : J N a w) : (Code.loop c).wpIn Fc n P Q a w := by
  refine wpIn_loop (fun a w => ∃ N, J N a w) (fun a w => least fun N => J N a w) ⟨N, h⟩ fun a w ⟨M, hM⟩ => ?_
  obtain ⟨h1, _⟩ := mi (p := fun N => J N a w) hM
  cases hl : least (fun N => J N a w) with
  | zero => rw [hl] at h1; exact absurd h1 (h0 a w)
  | succ L =>
    rw [hl] at h1
    refine wpIn_mono (round L a w h1) fun e a' w' hq => ?_
    cases e with
    | normal =>
      refine ⟨⟨L, hq⟩, ?_⟩
      have := (mi (p := fun N => J N a' w') hq).2
      show least (fun N => J N a' w') < L + 1
      omega
    | _ => exact hq
section scope
variable {P : Program} {b : Frame} {a : Act} {k : List Item} {cs : List Frame} {w : World}
theorem sW {c : Code} : step P (lone (b.atR a (.code (.scope c) :: k)) cs w) = .next (lone (b.atR a (.code c :: .inScope c :: k)) cs w) :=
  step_lone_go (by simp [stepG, stepG.exec, Frame.atR])
theorem ns {c : Code} : step P (lone (b.atR a (.inScope c :: k)) cs w) = .next (lone (b.atR a k) cs w) :=
  step_lone_go (by simp [stepG, stepG.exec, Frame.atR])
end scope
def zy (c : Code) (K : Code → Act → World → Prop) (Q : Exit → Act → World → Prop) : Exit → Act → World → Prop
  | .goto l, a, w => (∃ rest, findLabel c l = some rest ∧ K rest a w) ∨ (findLabel c l = none ∧ Q (.goto l) a w)
  | e, a, w => Q e a w
theorem vK {Fc : Fence} {n : Nat} {P : Program} {c : Code} {Q : Exit → Act → World → Prop} (K : Nat → Code → Act → World → Prop) (h0 : ∀ d a w, ¬ K 0 d a w) (hs : ∀ N d a w, K (N + 1) d a w → d.wpIn Fc n P (zy c (K N) Q) a w) {N : Nat} {a : Act} {w : World} (h : K N c a w) : (Code.scope c).wpIn Fc n P Q a w := by
  intro b k cs hro hb hr
  have key : ∀ N d a w, K N d a w → ∃ e a' w', Q e a' w' ∧ ArrivesIn (Machine.fenced P Fc) P (lone (b.atR a (.code d :: .inScope c :: k)) cs w) b k cs e a' w' := by
    intro N
    induction N with
    | zero => intro d a w h; exact absurd h (h0 d a w)
    | succ N ih =>
      intro d a w h
      obtain ⟨e, a₁, w₁, hq, harr⟩ := hs N d a w h b (.inScope c :: k) cs hro hb hr
      cases e with
      | normal => exact ⟨.normal, a₁, w₁, hq, StepsIn.trans harr (.one (fenced_calm hb hr rfl) ns)⟩
      | exit id =>
        have hx : exitTo id (.inScope c :: k) = exitTo id k := by simp [exitTo]
        exact ⟨.exit id, a₁, w₁, hq, fun k' hk => harr.1 k' (by rw [hx]; exact hk), fun hr' hk => harr.2 hr' (by rw [hx]; exact hk)⟩
      | goto l =>
        rcases hq with ⟨rest, hf, hK⟩ | ⟨hf, hq⟩
        · have hg : gotoIn l (.inScope c :: k) = some (.code rest :: .inScope c :: k) := by simp [gotoIn, hf]
          obtain ⟨e₂, a₂, w₂, hq₂, harr₂⟩ := ih rest a₁ w₁ hK
          exact ⟨e₂, a₂, w₂, hq₂, .of_steps (harr.1 _ hg) harr₂⟩
        · have hg : gotoIn l (.inScope c :: k) = gotoIn l k := by simp [gotoIn, hf]
          exact ⟨.goto l, a₁, w₁, hq, fun k' hk => harr.1 k' (by rw [hg]; exact hk), fun hr' hk => harr.2 hr' (by rw [hg]; exact hk)⟩
      | ret => exact ⟨_, a₁, w₁, hq, harr⟩
      | panic ch => exact ⟨_, a₁, w₁, hq, harr⟩
      | outgrown => exact ⟨_, a₁, w₁, hq, harr⟩
  obtain ⟨e, a', w', hq, harr⟩ := key N c a w h
  exact ⟨e, a', w', hq, .of_steps (.one (fenced_calm hb hr rfl) sW) harr⟩
section
variable {C : Cx}
theorem jn : ∀ (c : Code) (l : Nat), (den C c).wN l = (findLabel c l).map fun rest => (den C rest).run
  | .skip, _ | .region .., _ | .cond .., _ | .block .., _ | .loop _, _ | .rangeFunc .., _ | .exit _, _ | .scope _, _ | .goto _, _ | .ret, _ | .refuse _, _ => rfl
  | .label l', l => by
    have e : (den C (.label l')).wN l = (Bool.rec (motive := fun _ => Option (G → (G → Sm) → jO → Sm → Sm)) none (some fun g k _ _ => k g) (Nat.beq l' l) : Option _) := rfl
    rw [e, aZ]
    by_cases h : l' = l
    · rw [if_pos (by rw [an]; exact h)]
      simp only [findLabel, beq_iff_eq, h, if_true]; rfl
    · rw [if_neg (by rw [an]; exact h)]
      simp [findLabel, h]
  | .seq a b, l => by
    have e : (den C (.seq a b)).wN l = (Option.rec (motive := fun _ => Option (G → (G → Sm) → jO → Sm → Sm)) ((den C b).wN l) (fun r => some fun g k ex rt => r g (fun g => (den C b).run g k ex rt) ex rt) ((den C a).wN l) : Option _) := rfl
    rw [e, jn a l, jn b l]
    cases h : findLabel a l with
    | none => simp [findLabel, h]
    | some r => simp only [findLabel, h, Option.map_some]; rfl
theorem oV : ∀ (c : Code) (l : Nat), l ∉ (den C c).ls → findLabel c l = none
  | .skip, _, _ | .region .., _, _ | .cond .., _, _ | .block .., _, _ | .loop _, _, _ | .rangeFunc .., _, _ | .exit _, _, _ | .scope _, _, _ | .goto _, _, _ | .ret, _, _ | .refuse _, _, _ => rfl
  | .label l', l, h => by
    have e : (den C (.label l')).ls = [l'] := rfl
    rw [e, List.mem_singleton] at h
    simp [findLabel, Ne.symm h]
  | .seq a b, l, h => by
    have e : (den C (.seq a b)).ls = nc (den C a).ls (den C b).ls := rfl
    rw [e, oI, List.mem_append, not_or] at h
    simp [findLabel, oV a l h.1, oV b l h.2]
theorem eS (n : Nat) (p : Nat × Sm) (l : jO) : gy n (p :: l) = if p.1 = n then p.2 else gy n l := by
  show (Bool.rec (motive := fun _ => Sm) (gy n l) p.2 (Nat.beq p.1 n) : Sm) = _
  rw [aZ]; simp only [an]
theorem ll (n : Nat) (fr : Fr) (hp : Hp) : ∀ (l : jO), yF l n fr hp = (gy n l).run .lf fr hp
  | [] => rfl
  | p :: l => by
    rw [eS]
    show (Bool.rec (motive := fun _ => ab) (yF l n fr hp) (p.2.run .lf fr hp) (Nat.beq p.1 n) : ab) = _
    rw [aZ]
    by_cases e : p.1 = n
    · rw [if_pos (by rw [an]; exact e), if_pos e]
    · rw [if_neg (by rw [an]; exact e), if_neg e, ll n fr hp l]
theorem eR {R : ab} (hR : R ≠ .fail) {n : Nat} {sk : Row} {fr : Fr} {hp : Hp} : ∀ {l : jO}, (gy n (dS l)).run sk fr hp = R → R = .exit n fr hp
  | [], h => aa hR h
  | p :: l, h => by
    have h' : (gy n ((p.1, exS p.1) :: dS l)).run sk fr hp = R := h
    rw [eS] at h'
    split at h'
    · rename_i e
      simp only at e
      rw [← h', ← e]; rfl
    · exact eR hR h'
theorem lB {R : ab} (hR : R ≠ .fail) {n : Nat} {sk : Row} {fr : Fr} {hp : Hp} {l : jO} : ∀ {ls : List Nat}, (gy n (zR ls (dS l))).run sk fr hp = R → R = .exit n fr hp
  | [], h => eR hR h
  | q :: ls, h => by
    have h' : (gy n ((Nat.succ (Nat.mul 2 q), exS (Nat.succ (Nat.mul 2 q))) :: zR ls (dS l))).run sk fr hp = R := h
    rw [eS] at h'
    split at h'
    · rename_i e
      simp only at e
      rw [← h', ← e]; rfl
    · exact lB hR h'
def At (C : Cx) (vs : Vs) (s0 : ek) (μ0 : Mu) (F0 : Nat → Prop) (h0 : Hp) (w0 : World) (g : G) (sk : Row) (fr : Fr) (hp : Hp) (a : Act) (w : World) : Prop := ∃ μ F, St C (C.env vs) (s0.at w0.heap.size) g sk fr hp μ F a w ∧ bR μ0 F0 h0 w0 μ F hp w
variable {vs : Vs} {s0 : ek} {μ0 : Mu} {F0 : Nat → Prop} {h0 : Hp} {w0 : World}
theorem At.drop {g : G} {sk : Row} {fr : Fr} {hp : Hp} {a : Act} {w : World} (h : At C vs s0 μ0 F0 h0 w0 g sk fr hp a w) : At C vs s0 μ0 F0 h0 w0 .e .lf fr hp a w := by
  obtain ⟨μ, F, S, E⟩ := h
  refine ⟨μ, F, ⟨bN.e, fun t => ?_, S.h, S.nt, S.df⟩, E⟩
  have e : look C .e t = idxOf t C.vars 0 := rfl
  show ae w F μ (sv 0 (look C .e t) .lf fr) _
  rw [e]
  rcases dB (l := C.vars) (t := t) (i := 0) with ⟨j, hj⟩ | hj
  · rw [hj]
    have h1 := S.sl t
    have hl : look C g t = .f j := by
      rw [look_eq]
      rcases dJ (z := idxOf t C.vars 0) (t := t) (l := g.m) with ⟨x, p1, p2, _⟩ | ⟨_, p2⟩
      · have := S.gi.nv x p1
        rw [p2, kb hj] at this; cases this
      · rw [p2]; exact hj
    unfold sig at h1
    rw [hl] at h1
    exact h1
  · rw [hj]; exact .uu _
def aH (C : Cx) (vs : Vs) (r : Option Nat) (n : Nat) (c : Code) : Prop := ∀ {s0 : ek} {μ0 : Mu} {F0 : Nat → Prop} {h0 : Hp} {w0 : World} {g : G} {k : G → Sm} {ex : jO} {rt : Sm} {sk : Row} {fr : Fr} {hp : Hp} {R : ab} {a : Act} {w : World} {Q : Exit → Act → World → Prop}, R ≠ .fail → ((den C c).run g k ex rt).run sk fr hp = R → At C vs s0 μ0 F0 h0 w0 g sk fr hp a w →
  (∀ g' sk' fr' hp' a' w', (k g').run sk' fr' hp' = R → At C vs s0 μ0 F0 h0 w0 g' sk' fr' hp' a' w' → Q .normal a' w') →
  (∀ id fr' hp' a' w', (gy (2 * id) ex).run .lf fr' hp' = R → At C vs s0 μ0 F0 h0 w0 .e .lf fr' hp' a' w' → Q (.exit id) a' w') →
  (∀ l fr' hp' a' w', (gy (2 * l + 1) ex).run .lf fr' hp' = R → At C vs s0 μ0 F0 h0 w0 .e .lf fr' hp' a' w' → Q (.goto l) a' w') →
  (∀ fr' hp' a' w', rt.run .lf fr' hp' = R → At C vs s0 μ0 F0 h0 w0 .e .lf fr' hp' a' w' → Q .ret a' w') → c.wpIn (Wf r) n C.P Q a w
end
end Go.Proofs.YtdlohaedegmiaaaGreatDoor.Ev
