import Derived.Test.YtbamejikafhenaaDoorEvAD
import Derived.Deep.Upon
import Derived.Laws.IdiomStrings
import Derived.Lib.AppendZeros
namespace Go.Proofs.YtbamejikafhenaaDoor.Ev
theorem oV {B : Nat} : ∀ (vs : List Value) (o : Nat) (w : World) (c : Array Value) (T : TypeId) (fz : Nat × Nat), w.heap[B]? = some (.cells c T fz) →
    ∃ c', (w.setCells B o vs).heap[B]? = some (.cells c' T fz) ∧ c'.size = c.size ∧ ∀ j, c'[j]? = if o ≤ j ∧ j < o + vs.length ∧ j < c.size then vs[j - o]? else c[j]?
  | [], o, w, c, T, fz, h => ⟨c, h, rfl, fun j => by rw [if_neg (by simp only [List.length_nil]; omega)]⟩
  | v :: r, o, w, c, T, fz, h => by
    have h1 : (w.setCell ⟨B, o, none⟩ v).heap[B]? = some (.cells (c.setIfInBounds o v) T fz) := by
      simp only [World.setCell, Array.getElem?_modify, h]
      simp
    obtain ⟨c', h2, h3, h4⟩ := oV r (o + 1) _ _ _ _ h1
    refine ⟨c', h2, by rw [h3, Array.size_setIfInBounds], fun j => ?_⟩
    rw [h4 j, Array.size_setIfInBounds, Array.getElem?_setIfInBounds]
    by_cases e : j = o
    · subst e
      rw [if_neg (by omega)]
      by_cases hj : j < c.size
      · rw [if_pos rfl, if_pos hj, if_pos ⟨Nat.le_refl _, by simp only [List.length_cons]; omega, hj⟩, Nat.sub_self]; rfl
      · rw [if_pos rfl, if_neg hj, if_neg (by omega), Array.getElem?_eq_none (by omega)]
    · by_cases e1 : o + 1 ≤ j ∧ j < o + 1 + r.length ∧ j < c.size
      · rw [if_pos e1, if_pos (by simp only [List.length_cons]; omega), show j - o = (j - (o + 1)) + 1 by omega]; rfl
      · rw [if_neg e1, if_neg (Ne.symm e), if_neg (by simp only [List.length_cons]; omega)]
theorem jw {B X : Nat} (h : X ≠ B) : ∀ (vs : List Value) (o : Nat) (w : World), (w.setCells B o vs).heap[X]? = w.heap[X]?
  | [], _, _ => rfl
  | v :: r, o, w => by
    rw [World.setCells, jw h r]
    simp only [World.setCell, Array.getElem?_modify]
    rw [if_neg (Ne.symm h)]
theorem lH {B : Nat} : ∀ (vs : List Value) (o : Nat) (w : World), (w.setCells B o vs).heap.size = w.heap.size
  | [], _, _ => rfl
  | v :: r, o, w => by rw [World.setCells, lH r]; simp only [World.setCell, Array.size_modify]
theorem om {B : Nat} : ∀ (vs : List Value) (o : Nat) (w : World), fU w (w.setCells B o vs)
  | [], _, w => .refl w
  | v :: r, o, w => by rw [World.setCells]; exact fU.trans ⟨rfl, rfl⟩ (om r _ _)
def ki (id : Nat) (μ μ' : Mu) : Prop := ∀ b, μ' b ≠ none → μ b ≠ none ∨ b = id
theorem ki.refl (id : Nat) (μ : Mu) : ki id μ μ := fun _ h => .inl h
theorem ki.dS (id : Nat) (μ : Mu) (m : Mp) : ki id μ (dS μ id m) := fun b h => by
  by_cases e : b = id
  · exact .inr e
  · rw [dX μ m e] at h; exact .inl h
def me (V : Env) (μ : Mu) (F : Nat → Prop) (hp : Hp) (w : World) {α : Type} (s : Sem α) (hp' : Hp) (Q : World → (Nat → Prop) → Mu → α → Prop) : Prop :=
  ∃ μ' F' w' x, s.run V.P w = .ok x w' ∧ Q w' F' μ' x ∧ aP V μ' F' hp' w' ∧ Ext μ F hp w μ' F' hp' w'
section
variable {V : Env} {μ : Mu} {F : Nat → Prop} {hp hp' : Hp} {w : World}
theorem aP.write (H : aP V μ F hp w) {b : Nat} {fl fl' : Bool} {z s : Nat} {t t' : Row} {m : Mp} (hB : hp.at b = .row true fl z s t) (hpr : b ∉ hp.pr) (hm : μ b = some m) {o : Nat} {vs : List Value} (ho : o + vs.length ≤ s)
    (hv : ∀ i, i < vs.length → ∃ y, vs[i]? = some y ∧ y.oneCell' = true ∧ ao w F μ (cellAt z t' (o + i)) y) (hrest : ∀ j, j < s → ¬ (o ≤ j ∧ j < o + vs.length) → cellAt z t' j = cellAt z t j)
    (hfl : fl' = true → ∀ i, i < s → (cellAt z t' i).cM = true) (hs : fq hp b (.row true fl' z s t') hp') :
    aP V μ F hp' (w.setCells m.c8 (m.base + o) vs) ∧ Ext μ F hp w μ F hp' (w.setCells m.c8 (m.base + o) vs) ∧ (storeCells ⟨m.c8, m.base + o, none⟩ vs).run V.P w = .ok () (w.setCells m.c8 (m.base + o) vs) := by
  have hb := H.c8 b
  rw [hB] at hb
  obtain ⟨m', c, T, fz, h1, h2, h3, h4, h5, h6, _⟩ := hb
  rw [hm] at h1; cases h1
  obtain ⟨h6a, h6b⟩ := h6 rfl
  obtain ⟨c', h7, h8, h9⟩ := oV vs (m.base + o) w c T fz h2
  have hin : ∀ i, i < s → m.base + i < c.size := fun i hi => by
    obtain ⟨u, hu, _⟩ := h4 i hi
    exact (Array.getElem?_eq_some_iff.1 hu).1
  have hwr : (hp.at b).wr := by rw [hB]; exact rfl
  have hF : ∀ X, F X → (w.setCells m.c8 (m.base + o) vs).heap[X]? = w.heap[X]? := fun X hX => jw (B := m.c8) (X := X) (fun e => h6b (by rw [← e]; exact hX)) _ _ _
  obtain ⟨hH, hE⟩ := H.set hwr hpr hm (lH vs (m.base + o) w) (fun X hX => jw hX vs _ w) hs (by
    refine ⟨m, c', T, fz, hm, h7, h8.trans h3, fun i hi => ?_, hfl, fun _ => ⟨h8 ▸ h6a, h6b⟩, fun e => Bool.noConfusion e⟩
    by_cases e : o ≤ i ∧ i < o + vs.length
    · obtain ⟨y, hy, h1y, hc⟩ := hv (i - o) (by omega)
      rw [show o + (i - o) = i by omega] at hc
      refine ⟨y, ?_, h1y, hc.mono hF (fun _ h => h) (fun _ _ h => h)⟩
      rw [h9, if_pos ⟨by omega, by omega, hin i hi⟩, show m.base + i - (m.base + o) = i - o by omega]; exact hy
    · obtain ⟨y, hy, h1y, hc⟩ := h4 i hi
      refine ⟨y, ?_, h1y, ?_⟩
      · rw [h9, if_neg (by omega)]; exact hy
      · rw [hrest i hi e]; exact hc.mono hF (fun _ h => h) (fun _ _ h => h)) (hio := om _ _ _)
  refine ⟨hH, hE, ?_⟩
  have := run_storeCells_cells (P := V.P) m.c8 (m.base + o) vs 0 w (fun j hj => ?_) (fun j hj => ?_) (fun v hv' => ?_)
  · simpa only [Nat.add_zero] using this
  · have hj' := hin (o + j) (by omega)
    rw [Nat.add_zero, cell_of h2, Array.getElem?_eq_getElem (by omega)]; rfl
  · have hj' := hin (o + j) (by omega)
    have := h6a
    rw [Nat.add_zero]
    simp only [World.frozen?, h2]
    simp only [Bool.and_eq_false_iff, decide_eq_false_iff_not]
    omega
  · obtain ⟨i, hi, rfl⟩ := List.mem_iff_getElem.1 hv'
    obtain ⟨y, hy, h1y, _⟩ := hv i hi
    rw [List.getElem?_eq_getElem hi] at hy; cases hy; exact h1y
theorem pJ {v : AV} {u : Value} {n : Nat} (hf : Fits v n) (h : ao w F μ v u) : u.cells.size = n ∧ ∀ i, i < n → ∃ y, u.cells[i]? = some y ∧ y.oneCell' = true ∧ ao w F μ (cv v i) y := by
  cases hf with
  | agg l n =>
    cases h with
    | agg us hs hu h1 h => exact ⟨hs, fun i hi => ⟨us i, hu i hi, h1 i hi, h i hi⟩⟩
  | one h1 h2 h3 =>
    have hcv : cv v 0 = v := by cases v <;> first | rfl | exact absurd rfl (h1 _ _)
    have one : u.cells = #[u] → u.oneCell' = true → u.cells.size = 1 ∧ ∀ i, i < 1 → ∃ y, u.cells[i]? = some y ∧ y.oneCell' = true ∧ ao w F μ (cv v i) y := fun e e2 => by
      rw [e]; refine ⟨rfl, fun i hi => ⟨u, ?_, e2, ?_⟩⟩
      · have : i = 0 := by omega
        subst this; rfl
      · have : i = 0 := by omega
        subst this; rw [hcv]; exact h
    cases h with
    | agg => exact absurd rfl (h1 _ _)
    | bB => exact absurd rfl (h2 _ _)
    | uu => exact absurd rfl (h3 _ _ _ _)
    | _ => exact one rfl rfl
end
section
variable {V : Env} {M : Mem} (ok : cW M) {R : aa} (hR : R ≠ .fail)
include ok hR
theorem a5M {ty : TypeId} (hsz : 1 ≤ bw V.P ty) {a v : AV} {hp : Hp} {k : Hp → aa} (g : aH M (bw V.P ty) a v hp k = R) :
    ∃ hp', k hp' = R ∧ ∀ {w : World} {F : Nat → Prop} {μ : Mu} {u x : Value}, ao w F μ a u → ao w F μ v x → aP V μ F hp w → me V μ F hp w (Instr.storeAt ty u x) hp' fun _ _ μ' _ => μ' = μ := by
  rcases kp hR g with ⟨b, o, rfl, g⟩ | ⟨t, o, n, z, rfl, g⟩
  · obtain ⟨fl, z, s, t, hB, hs, hpr, g⟩ := wM ok hR g
    obtain ⟨t', f, hf, ht, hfree, g⟩ := a7w ok hR g
    obtain ⟨hp', hset, _, g⟩ := kJ ok hR g
    refine ⟨hp', g, fun {w F μ u x} ha hv H => ?_⟩
    obtain ⟨m, hm, rfl⟩ := jX ha
    obtain ⟨i, hi, hi2, hi3⟩ := ji hsz
    obtain ⟨hc1, hc2⟩ := pJ hf hv
    have hs : o + bw V.P ty ≤ s := hs
    have hl : x.cells.toList.length = bw V.P ty := by rw [Array.length_toList, hc1]
    have hfl : (∃ m c T fz, μ b = some m ∧ w.heap[m.c8]? = some (.cells c T fz) ∧ (fl = true → ∀ i, i < s → (cellAt z t i).cM = true)) := by
      have hb := H.c8 b
      rw [hB] at hb
      obtain ⟨m, c, T, fz, h1, h2, _, _, h5, _⟩ := hb
      exact ⟨m, c, T, fz, h1, h2, h5⟩
    obtain ⟨_, _, _, _, _, _, hfl⟩ := hfl
    obtain ⟨hH, hE, hrun⟩ := H.write (o := o) (vs := x.cells.toList) hB hpr hm (by omega) (fun i hi => by
        obtain ⟨y, hy, h1, h2⟩ := hc2 i (by omega)
        refine ⟨y, by rw [Array.getElem?_toList]; exact hy, h1, ?_⟩
        rw [ht, if_pos (by omega), show o + i - o = i by omega]; exact h2)
      (fun j hj hne => by rw [ht, if_neg (by rw [← hl]; exact hne)]) (fun e i hi => by
        rw [cI] at e
        rw [ht]
        by_cases e2 : o ≤ i ∧ i < o + bw V.P ty
        · rw [if_pos e2]
          rcases hfree e.2 (i - o) (by omega) with h | ⟨l, n, rfl, h⟩
          · exact fx h
          · show (nth l (i - o)).cM = true
            rw [yv h]; rfl
        · rw [if_neg e2]; exact hfl e.1 i hi) hset
    refine ⟨μ, F, _, (), ?_, rfl, hH, hE⟩
    rw [Instr.storeAt, Sem.run_bind, rk]
    show (storeVar ty ⟨m.c8, m.base + o, none⟩ x).run V.P w = _
    have hsz' : x.cells.size = i.size := by rw [hc1, hi3]
    unfold storeVar
    simp [sizeOf, typeInfo, hi2, hsz', hrun]
  · exact an hR g
end
theorem qX {z e q p : Nat} (hz : 0 < z) {r u t : Row} (h : ∀ j, r.at j = if e ≤ j ∧ j < e + q then u.at (p + (j - e)) else t.at j) :
    (∀ i, i < q * z → cellAt z r (e * z + i) = cellAt z u (p * z + i)) ∧ ∀ j, ¬ (e * z ≤ j ∧ j < e * z + q * z) → cellAt z r j = cellAt z t j := by
  refine ⟨fun i hi => a9e hz (n := q) (fun j hj => ?_) hi, fun j hj => a2u hz ?_⟩
  · rw [h, if_pos (by omega), show e + j - e = j by omega]
  · rw [h, if_neg]
    rintro ⟨h1, h2⟩
    rw [Nat.le_div_iff_mul_le hz] at h1
    rw [Nat.div_lt_iff_lt_mul hz, Nat.add_mul] at h2
    exact hj ⟨h1, h2⟩
theorem ofRow {V : Env} {μ : Mu} {F : Nat → Prop} {hp : Hp} {w : World} (H : aP V μ F hp w) {b : Nat} {rw' fl : Bool} {z s : Nat} {t : Row} (hB : hp.at b = .row rw' fl z s t) : (∃ m, μ b = some m) ∧ (fl = true → ∀ i, i < s → (cellAt z t i).cM = true) := by
  have hb := H.c8 b
  rw [hB] at hb
  obtain ⟨m, c, T, fz, h1, h2, _, _, h5, _⟩ := hb
  exact ⟨⟨m, h1⟩, h5⟩
theorem me.stay {V : Env} {μ : Mu} {F : Nat → Prop} {hp : Hp} {w : World} {α : Type} {s : Sem α} {x : α} {Q : World → (Nat → Prop) → Mu → α → Prop} (H : aP V μ F hp w) (hr : s.run V.P w = .ok x w) (hq : Q w F μ x) : me V μ F hp w s hp Q :=
  ⟨μ, F, w, x, hr, hq, H, Ext.refl _ _ _ _⟩
section
variable {V : Env} {M : Mem} (ok : cW M) {R : aa} (hR : R ≠ .fail)
include ok hR
end
theorem afB (k : IntKind) {n : Nat} (h : n < lm (kc k)) : n < md (kc k) ∧ (4 ≤ kc k ∨ n < hf (kc k)) := by
  cases k <;> simp only [kc, lm, md, hf] at h ⊢ <;> omega
theorem dM {w : World} {F : Nat → Prop} {μ : Mu} {v : Value} (h : eL (aZ v) = true) : ao w F μ (aZ v) v ∧ v.oneCell' = true ∧ (aZ v).cM = true ∧ (∀ l n, aZ v ≠ .agg l n) ∧ (∀ l n, aZ v ≠ .bB l n) ∧ (∀ t a b c, aZ v ≠ .x 0 t a b c) := by
  cases v with
  | int k n =>
    cases n with
    | ofNat m =>
      have e : aZ (.int k (.ofNat m)) = (Bool.rec (motive := fun _ => AV) .uu (.int (kc k) m) (Nat.ble (Nat.succ m) (lm (kc k))) : AV) := rfl
      rw [e] at h ⊢
      by_cases c : m < lm (kc k)
      · rw [mq (show Nat.succ m ≤ lm (kc k) from c)]
        obtain ⟨h1, h2⟩ := afB k c
        refine ⟨?_, rfl, rfl, fun _ _ => AV.noConfusion, fun _ _ => AV.noConfusion, fun _ _ _ _ => AV.noConfusion⟩
        have := cX (w := w) (F := F) (μ := μ) h1
        rw [jl _ _ h1 h2, ac5] at this; exact this
      · rw [tZ (show ¬ Nat.succ m ≤ lm (kc k) from c)] at h; exact Bool.noConfusion h
    | negSucc m =>
      have e : aZ (.int k (.negSucc m)) = (Bool.rec (motive := fun _ => AV) .uu (.int (kc k) (Nat.sub (md (kc k)) (Nat.succ m))) (Nat.ble (Nat.succ m) (hf (kc k))) : AV) := rfl
      rw [e] at h ⊢
      by_cases c : Nat.succ m ≤ hf (kc k)
      · rw [mq c]
        refine ⟨?_, rfl, rfl, fun _ _ => AV.noConfusion, fun _ _ => AV.noConfusion, fun _ _ _ _ => AV.noConfusion⟩
        have hlt := hf_lt (kc k)
        have h2 : 2 * hf (kc k) ≤ md (kc k) := by cases k <;> simp only [kc, md, hf] <;> omega
        have h1 : md (kc k) - (m + 1) < md (kc k) := by omega
        have := cX (w := w) (F := F) (μ := μ) h1
        rw [tq _ _ h1, ac5, if_pos ⟨by omega, by omega⟩] at this
        have e2 : ((md (kc k) - (m + 1) : Nat) : Int) - md (kc k) = Int.negSucc m := by omega
        rw [e2] at this; exact this
      · rw [tZ c] at h; exact Bool.noConfusion h
  | bool b => exact ⟨.bool b, rfl, rfl, fun _ _ => AV.noConfusion, fun _ _ => AV.noConfusion, fun _ _ _ _ => AV.noConfusion⟩
  | string s => exact ⟨.str, rfl, rfl, fun _ _ => AV.noConfusion, fun _ _ => AV.noConfusion, fun _ _ _ _ => AV.noConfusion⟩
  | pointer a =>
    cases a with
    | none => exact ⟨.vZ, rfl, rfl, fun _ _ => AV.noConfusion, fun _ _ => AV.noConfusion, fun _ _ _ _ e => by simp [aZ] at e⟩
    | some a => exact Bool.noConfusion h
  | slice a n c =>
    cases a with
    | none =>
      have e : aZ (.slice none n c) = (Bool.rec (motive := fun _ => AV) .uu (.x 8 .lf 0 0 0) (bp (Nat.beq n 0) (Nat.beq c 0)) : AV) := rfl
      rw [e] at h ⊢
      cases hb : bp (Nat.beq n 0) (Nat.beq c 0) with
      | false => rw [hb] at h; exact Bool.noConfusion h
      | true =>
        rw [cI, aF, aF] at hb
        obtain ⟨rfl, rfl⟩ := hb
        exact ⟨.qK, rfl, rfl, fun _ _ => AV.noConfusion, fun _ _ => AV.noConfusion, fun _ _ _ _ e => by simp at e⟩
    | some a => exact Bool.noConfusion h
  | map m =>
    cases m with
    | none => exact ⟨.wK, rfl, rfl, fun _ _ => AV.noConfusion, fun _ _ => AV.noConfusion, fun _ _ _ _ e => by simp [aZ] at e⟩
    | some m => exact Bool.noConfusion h
  | nilFunc => exact ⟨.yA, rfl, rfl, fun _ _ => AV.noConfusion, fun _ _ => AV.noConfusion, fun _ _ _ _ e => by simp [aZ] at e⟩
  | nilIface => exact ⟨.xT, rfl, rfl, fun _ _ => AV.noConfusion, fun _ _ => AV.noConfusion, fun _ _ _ _ e => by simp [aZ] at e⟩
  | _ => exact Bool.noConfusion h
theorem kL (v : Value) : (aZ v).cM = true := by
  by_cases h : eL (aZ v) = true
  · exact (dM (w := default) (F := fun _ => False) (μ := dQ) h).2.2.1
  · cases hc : aZ v with
    | x g t a b c =>
      rw [hc] at h
      cases g with
      | zero => rfl
      | succ g => exact absurd rfl h
    | _ => rw [hc] at h; exact absurd rfl h
theorem qF : ∀ (l : List Value) (i : Nat), nth (qR l) i = (l[i]?.map aZ).getD .uu
  | [], i => by cases i <;> rfl
  | v :: l, 0 => rfl
  | v :: l, i + 1 => qF l i
theorem jZ : ∀ (l : List Value), allKnown l = true → ∀ (i : Nat) (v : Value), l[i]? = some v → eL (aZ v) = true
  | [], _, i, v, h => by cases h
  | a :: l, h, i, v, hi => by
    have h' : bp (eL (aZ a)) (allKnown l) = true := h
    rw [cI] at h'
    cases i with
    | zero => cases hi; exact h'.1
    | succ i => exact jZ l h'.2 i v hi
theorem jH (cs : Array Value) : fZ (.agg cs) = if allKnown cs.toList = true then .agg (qR cs.toList) cs.size else .uu := eF _ _ _
theorem nh {v : Value} (h : ∀ cs, v ≠ .agg cs) : fZ v = aZ v := by
  cases v <;> first | rfl | exact absurd rfl (h _)
theorem pe {w : World} {F : Nat → Prop} {μ : Mu} (v : Value) : ao w F μ (fZ v) v := by
  by_cases hk : eL (fZ v) = true
  · by_cases hv : ∃ cs, v = .agg cs
    · obtain ⟨cs, rfl⟩ := hv
      rw [jH] at hk ⊢
      by_cases ha : allKnown cs.toList = true
      · rw [if_pos ha]
        have hget : ∀ i, i < cs.size → ∃ u, cs[i]? = some u ∧ cs.toList[i]? = some u := fun i hi => ⟨cs[i], Array.getElem?_eq_getElem hi, by rw [Array.getElem?_toList]; exact Array.getElem?_eq_getElem hi⟩
        obtain ⟨us, hus⟩ := mT hget
        refine .agg us rfl (fun i hi => (hus i hi).1) (fun i hi => ?_) fun i hi => ?_
        · exact (dM (w := w) (F := F) (μ := μ) (jZ _ ha i _ (hus i hi).2)).2.1
        · rw [qF, (hus i hi).2]
          exact (dM (jZ _ ha i _ (hus i hi).2)).1
      · rw [if_neg ha] at hk; exact Bool.noConfusion hk
    · rw [nh fun cs e => hv ⟨cs, e⟩] at hk ⊢
      exact (dM hk).1
  · have : ∃ t a b c, fZ v = .x 0 t a b c := by
      cases hc : fZ v with
      | x g t a b c =>
        rw [hc] at hk
        cases g with
        | zero => exact ⟨t, a, b, c, rfl⟩
        | succ g => exact absurd rfl hk
      | _ => rw [hc] at hk; exact absurd rfl hk
    obtain ⟨t, a, b, c, e⟩ := this
    rw [e]; exact .uu v
section
variable {P : Program}
theorem u7 {t : TypeId} {i : TypeInfo} (h : eT P t = some i) {v : Value} (hz : i.zero = some v) : dI P t = fZ v := by
  unfold dI
  rw [h]; show (match i.zero with | some v => fZ v | none => _) = _
  rw [hz]
theorem xQ {t : TypeId} (h : eL (dI P t) = true) : ∃ i v, eT P t = some i ∧ P.info? t = some i ∧ i.zero = some v ∧ dI P t = fZ v := by
  cases hi : eT P t with
  | none => unfold dI at h; rw [hi] at h; exact Bool.noConfusion h
  | some i =>
    cases hz : i.zero with
    | none => unfold dI at h; rw [hi] at h; have h' : (match i.zero with | some v => eL (fZ v) | none => eL .uu) = true := by
                rw [hz]; simp only [Option.bind_some, hz] at h; exact h
              rw [hz] at h'; exact Bool.noConfusion h'
    | some v => exact ⟨i, v, rfl, dT hi, hz, u7 hi hz⟩
theorem a5t {t : TypeId} {v : AV} {a : Row} (h : dI P t = .agg (.nd v a .lf) 1) : gr P t = v := by unfold gr; rw [h]; rfl
theorem a4U {t : TypeId} {l : Row} {n : Nat} (h : dI P t = .agg l n) (hn : ¬ n = 1) : gr P t = .agg l n := by
  unfold gr; rw [h]
  split
  · rename_i heq; injection heq with _ e2; exact absurd e2 hn
  · rfl
noncomputable def zc (P : Program) (t : TypeId) (z j : Nat) : AV := if z = 1 then gr P t else elc (gr P t) j
theorem j8 {t : TypeId} {z : Nat} (h : fi P t z = true) : ∃ i v, eT P t = some i ∧ P.info? t = some i ∧ i.zero = some v ∧ v.cells.size = z ∧
    ∀ j, j < z → ∃ y, v.cells[j]? = some y ∧ y.oneCell' = true ∧ (∀ w F μ, ao w F μ (zc P t z j) y) ∧ (zc P t z j).cM = true := by
  have hk : eL (dI P t) = true := by
    unfold fi at h
    cases hc : dI P t with
    | x g a b c d =>
      rw [hc] at h
      cases g with
      | zero => exact Bool.noConfusion h
      | succ g => rfl
    | _ => rfl
  obtain ⟨i, v, h1, h2, h3, h4⟩ := xQ hk
  refine ⟨i, v, h1, h2, h3, ?_⟩
  by_cases hv : ∃ cs, v = .agg cs
  · obtain ⟨cs, rfl⟩ := hv
    rw [h4, jH] at hk
    have ha : allKnown cs.toList = true := by
      cases ha : allKnown cs.toList with
      | true => rfl
      | false => rw [ha] at hk; exact Bool.noConfusion hk
    have hz : dI P t = .agg (qR cs.toList) cs.size := by rw [h4, jH, if_pos ha]
    have hs : cs.size = z := by unfold fi at h; rw [hz] at h; rw [← aF]; exact h
    refine ⟨hs, fun j hj => ?_⟩
    obtain ⟨y, hg⟩ : ∃ y, cs[j]? = some y := ⟨cs[j], Array.getElem?_eq_getElem (by omega)⟩
    have hkj : eL (aZ y) = true := jZ _ ha j _ (by rw [Array.getElem?_toList]; exact hg)
    have hc : zc P t z j = aZ y := by
      have hn : nth (qR cs.toList) j = aZ y := by rw [qF, Array.getElem?_toList, hg]; rfl
      unfold zc
      by_cases e : z = 1
      · rw [if_pos e]
        have hj0 : j = 0 := by omega
        subst hj0
        have hl : (qR cs.toList) = .nd (aZ y) .lf .lf := by
          have : cs.toList.length = 1 := by rw [Array.length_toList]; omega
          match hh : cs.toList, this with
          | [a], _ =>
            have : y = a := by
              have h5 : cs.toList[0]? = some y := by rw [Array.getElem?_toList]; exact hg
              rw [hh] at h5; exact (Option.some.inj h5).symm
            rw [this]; rfl
        rw [hl, hs, e] at hz
        exact a5t hz
      · rw [if_neg e]
        rw [hs] at hz
        rw [a4U hz e]; exact hn
    rw [hc]
    exact ⟨_, hg, (dM (w := default) (F := fun _ => False) (μ := dQ) hkj).2.1, fun w F μ => (dM hkj).1, kL _⟩
  · have hcell := nh fun cs e => hv ⟨cs, e⟩
    have hz : dI P t = aZ v := h4.trans hcell
    rw [hz] at hk
    obtain ⟨q1, q2, q3, q4, q5, q6⟩ := dM (w := default) (F := fun _ => False) (μ := dQ) hk
    have hcs : v.cells = #[v] := by cases v <;> first | rfl | exact absurd ⟨_, rfl⟩ hv
    have hz1 : z = 1 := by
      unfold fi at h
      rw [hz] at h
      cases hc : aZ v with
      | agg l n => exact absurd hc (q4 l n)
      | x g a b c d =>
        rw [hc] at h
        cases g with
        | zero => exact Bool.noConfusion h
        | succ g => rw [← aF]; exact h
      | _ => rw [hc] at h; rw [← aF]; exact h
    subst hz1
    refine ⟨by rw [hcs]; rfl, fun j hj => ?_⟩
    have hj0 : j = 0 := by omega
    subst hj0
    have hc : zc P t 1 0 = aZ v := by
      unfold zc
      rw [if_pos rfl]
      unfold gr
      rw [hz]
      split
      · rename_i heq; exact absurd heq (q4 _ _)
      · rfl
    rw [hc]
    exact ⟨v, by rw [hcs]; rfl, q2, fun w F μ => (dM hk).1, kL _⟩
end
theorem Seq.src {P : Program} {z : Nat} {x : Value} {m : Nat} {news : List Value} {w : World} {tx : TypeId} (hk : (∃ e', P.underlying tx = some (.slice e')) ∨ P.underlying tx = some .string) (h : Seq P z x m news w) : Go.Src P z tx x m news w := by
  have e : news.take (m * z) = news := List.take_of_length_le (by rw [h.size]; exact Nat.le_refl _)
  exact ⟨hk, h.len, by have := h.cells w rfl m (Nat.le_refl _); rwa [e] at this, by have := h.cells w.drew rfl m (Nat.le_refl _); rwa [e] at this, h.size, h.one⟩
theorem kC (z : Array Value) (n : Nat) : (Builtin.zeroCells z n).size = n * z.size := by simp [Builtin.zeroCells]
theorem aa1 {C : Cx} {t : TypeId} (h : acf C t = true) : (∃ e', C.P.underlying t = some (.slice e')) ∨ C.P.underlying t = some .string := by
  unfold acf at h
  cases hu : eI C.P t with
  | none => rw [hu] at h; exact Bool.noConfusion h
  | some d =>
    rw [hu] at h
    cases d <;> first | exact Bool.noConfusion h | exact .inl ⟨_, (aE hu).1⟩ | exact .inr (aE hu).1
section
variable {V : Env} {μ : Mu} {F : Nat → Prop} {hp hp' : Hp} {w : World}
theorem aP.row (H : aP V μ F hp w) {id : Nat} (hid : μ id = none) {z sz : Nat} {fl : Bool} {r : Row} {w' : World} {c : Array Value} {T : TypeId} {fz : Nat × Nat} (hw : w'.heap = w.heap.push (.cells c T fz)) (s : fq hp id (.row true fl z sz r) hp') (hn : id < hp'.nx)
    (hfz : fz.1 = fz.2 ∨ c.size ≤ fz.1) (hc : ∀ i, i < sz → ∃ y, c[i]? = some y ∧ y.oneCell' = true ∧ ao w F μ (cellAt z r i) y) (hfl : fl = true → ∀ i, i < sz → (cellAt z r i).cM = true) (hio : fU w w' := by exact ⟨rfl, rfl⟩) :
    aP V (dS μ id ⟨w.heap.size, 0, c.size⟩) F hp' w' ∧ Ext μ F hp w (dS μ id ⟨w.heap.size, 0, c.size⟩) F hp' w' := by
  have hold : ∀ B, B < w.heap.size → w'.heap[B]? = w.heap[B]? := fun B hB => by rw [hw, Array.getElem?_push, if_neg (by omega)]
  refine H.new hid hw s hn rfl ⟨_, c, T, fz, bS _ _ _, ?_, rfl, fun i hi => ?_, hfl, fun _ => ⟨hfz, fun hF => absurd (H.qt _ hF) (Nat.lt_irrefl _)⟩, fun e => Bool.noConfusion e⟩ hio
  · rw [hw]; simp
  · obtain ⟨y, h1, h2, h3⟩ := hc i hi
    exact ⟨y, by rw [Nat.zero_add]; exact h1, h2, h3.mono (fun B hB => hold B (H.qt B hB)) (fun _ h => h) (iD _ hid)⟩
theorem a5X (need old : Nat) (h : old < need) (hn : need ≤ 1073741824) : Builtin.nextslicecap need old ≤ 4294967296 := by
  have g : ∀ r c, c ≤ 1073741824 * 2 → (∀ c', c' < need → c' + (c' + 768) / 4 ≤ 1073741824 * 2) → Builtin.growBy need r c ≤ 1073741824 * 2 := by
    intro r
    induction r with
    | zero => intro c hc _; exact hc
    | succ r ih =>
      intro c hc hs
      unfold Builtin.growBy
      split
      · exact hc
      · exact ih _ (hs c (by omega)) hs
  unfold Builtin.nextslicecap
  split
  · omega
  · split
    · omega
    · exact Nat.le_trans (g 4 old (by omega) fun c' hc' => by omega) (by omega)
theorem ug (H : aP V μ F hp w) {id : Nat} (hid : μ id = none) {t tx ty e : TypeId} (ht : eI V.P t = some (.slice e)) (hk : (∃ e', V.P.underlying tx = some (.slice e')) ∨ V.P.underlying tx = some .string)
    {z : Nat} (hz : fi V.P e z = true) (hsz : bw V.P e = z) (hby : bytesOf V.P e ≤ 65536) {base : Option Addr} {n cap : Nat} {olds : List Value} (hold : (Builtin.firstCells z n (.slice base n cap)).run V.P w.drew = .ok olds.toArray w.drew) (holdl : olds.length = n * z)
    {x : Value} {m : Nat} {news : List Value} (hs : Seq V.P z x m news w) (hg : cap < n + m) (hq : n + m ≤ 1073741824) {fl : Bool} {r : Row} (s : fq hp id (.row true fl z ((n + m) * z) r) hp') (hn : id < hp'.nx)
    (hc : ∀ i, i < (n + m) * z → ∃ y, (olds ++ news)[i]? = some y ∧ y.oneCell' = true ∧ ao w F μ (cellAt z r i) y) (hfl : fl = true → ∀ i, i < (n + m) * z → (cellAt z r i).cM = true) :
    me V μ F hp w (Builtin.append_ #[t, tx] ty #[.slice base n cap, x]) hp' fun w F μ' v => ao w F μ' (.ms id 0 (n + m) z) v ∧ ki id μ μ' := by
  obtain ⟨i, zv, h1, h2, h3, h4, _⟩ := j8 hz
  have hi : i.size = z := by rw [← hsz, dP h1]
  have hb : i.bytes ≤ 65536 := by unfold bytesOf at hby; rw [h1] at hby; exact hby
  have hfit : Builtin.nextslicecap (n + m) cap * i.bytes ≤ 281474976710656 := by
    have := Nat.mul_le_mul (a5X (n + m) cap hg hq) hb
    omega
  have hrun := run_append_grow_src w t tx ty e i zv (aE ht).1 h2 h3 base n cap olds (by rw [hi]; exact hold) x m news (by rw [hi]; exact hs.src hk) hg (by omega) hfit
  have hge := grownCap_ge w (n + m) cap e
  have hlen : (olds ++ news).length = (n + m) * z := by rw [List.length_append, holdl, hs.size, Nat.add_mul]
  obtain ⟨hH, hE⟩ := H.row hid (w' := w.drew.alloc (.cells ((olds ++ news).toArray ++ Builtin.zeroCells zv.cells (grownCap w (n + m) cap e - (n + m))) e)) (fl := fl) (z := z) rfl s hn (.inl rfl) (fun i hi => by
      obtain ⟨y, q1, q2, q3⟩ := hc i hi
      refine ⟨y, ?_, q2, q3⟩
      rw [Array.getElem?_append, if_pos (by rw [List.size_toArray, hlen]; exact hi), List.getElem?_toArray]; exact q1) hfl
  refine ⟨_, _, _, _, hrun, ?_, hH, hE⟩
  have := ao.ms (w := w.drew.alloc (.cells ((olds ++ news).toArray ++ Builtin.zeroCells zv.cells (grownCap w (n + m) cap e - (n + m))) e)) (F := F) (μ := dS μ id ⟨w.heap.size, 0, ((olds ++ news).toArray ++ Builtin.zeroCells zv.cells (grownCap w (n + m) cap e - (n + m))).size⟩) (b := id) (o := 0) (z := z) (bS _ _ _) hge (by
    show 0 + 0 + grownCap w (n + m) cap e * z ≤ ((olds ++ news).toArray ++ Builtin.zeroCells zv.cells (grownCap w (n + m) cap e - (n + m))).size
    rw [Array.size_append, List.size_toArray, hlen, kC, h4, ← Nat.add_mul]
    have : n + m + (grownCap w (n + m) cap e - (n + m)) = grownCap w (n + m) cap e := by omega
    rw [this]; omega)
  exact ⟨this, ki.dS _ _ _⟩
theorem a4n (H : aP V μ F hp w) {id c : Nat} (hid : μ id = none) {t tx ty e : TypeId} (ht : eI V.P t = some (.slice e)) (hk : (∃ e', V.P.underlying tx = some (.slice e')) ∨ V.P.underlying tx = some .string)
    {z : Nat} (hz : fi V.P e z = true) (hsz : bw V.P e = z) {fl0 : Bool} {sz : Nat} {t0 : Row} (hB : hp.at c = .row true fl0 z sz t0) (hpr : c ∉ hp.pr) {mp : Mp} (hm : μ c = some mp) {o n cap : Nat} (ho : o + n * z ≤ sz) (hcs : mp.base + o + cap * z ≤ mp.size)
    {x : Value} {m : Nat} {news : List Value} (hs : Seq V.P z x m news w) (hroom : n + m ≤ cap) {fl : Bool} {r : Row} {h1 : Hp} (s1 : fq hp c .dead h1) (s : fq h1 id (.row true fl z ((n + m) * z) r) hp') (hn : id < hp'.nx)
    (hold : ∀ i, i < n * z → cellAt z r i = cellAt z t0 (o + i)) (hnew : ∀ i, i < m * z → ∃ y, news[i]? = some y ∧ ao w F μ (cellAt z r (n * z + i)) y) (hfl : fl = true → ∀ i, i < (n + m) * z → (cellAt z r i).cM = true) :
    me V μ F hp w (Builtin.append_ #[t, tx] ty #[.slice (some ⟨mp.c8, mp.base + o, none⟩) n cap, x]) hp' fun w F μ' v => ao w F μ' (.ms id 0 (n + m) z) v ∧ ki id μ μ' := by
  obtain ⟨i, zv, h1', h2, h3, h4, _⟩ := j8 hz
  have hi : i.size = z := by rw [← hsz, dP h1']
  have hb := H.c8 c
  rw [hB] at hb
  obtain ⟨m', ca, T, fz, q1, q2, q3, q4, q5, q6, _⟩ := hb
  rw [hm] at q1; cases q1
  obtain ⟨q6a, q6b⟩ := q6 rfl
  have hmz : (n + m) * z = n * z + m * z := Nat.add_mul _ _ _
  have hle : (n + m) * z ≤ cap * z := Nat.mul_le_mul_right z hroom
  have hlen : news.length = m * z := hs.size
  obtain ⟨c', h7, h8, h9⟩ := oV news (mp.base + o + n * z) w ca T fz q2
  have hrun := run_append_room_src w t tx ty e i (aE ht).1 h2 mp.c8 (mp.base + o) n cap x m news (by rw [hi]; exact hs.src hk) hroom (fun j hj => by
      rw [hi, cell_of q2, Array.getElem?_eq_getElem (by omega)]; rfl) (fun j hj => by
      rw [hi]
      simp only [World.frozen?, q2, Bool.and_eq_false_iff, decide_eq_false_iff_not]
      omega)
  rw [hi] at hrun
  have hne : id ≠ c := fun e => by rw [e, hm] at hid; cases hid
  have hwr : (hp.at c).wr := by rw [hB]; exact rfl
  have hF : ∀ X, F X → (w.setCells mp.c8 (mp.base + o + n * z) news).heap[X]? = w.heap[X]? := fun X hX => jw (B := mp.c8) (X := X) (fun e => q6b (by rw [← e]; exact hX)) _ _ _
  obtain ⟨hH, hE⟩ := H.move (m' := ⟨mp.c8, mp.base + o, mp.size⟩) hwr hpr hm hid s1 s hn hne (lH news (mp.base + o + n * z) w) (fun X hX => jw hX news _ w) rfl (by
    refine ⟨_, c', T, fz, bS _ _ _, h7, h8.trans q3, fun j hj => ?_, hfl, fun _ => ⟨by rw [h8]; exact q6a, q6b⟩, fun e => Bool.noConfusion e⟩
    show ∃ u, c'[mp.base + o + j]? = some u ∧ _
    rw [h9]
    by_cases e : j < n * z
    · obtain ⟨u, hu, hu1, hu2⟩ := q4 (o + j) (by omega)
      rw [if_neg (by omega)]
      refine ⟨u, by rw [Nat.add_assoc]; exact hu, hu1, ?_⟩
      rw [hold j e]; exact hu2.mono hF (fun _ h => h) (iD _ hid)
    · obtain ⟨y, hy, hc⟩ := hnew (j - n * z) (by omega)
      rw [if_pos ⟨by omega, by omega, by omega⟩, show mp.base + o + j - (mp.base + o + n * z) = j - n * z by omega]
      refine ⟨y, hy, hs.one y (List.mem_of_getElem? hy), ?_⟩
      rw [show n * z + (j - n * z) = j by omega] at hc
      exact hc.mono hF (fun _ h => h) (iD _ hid)) (hio := om _ _ _)
  refine ⟨_, _, _, _, hrun, ?_, hH, hE⟩
  exact ⟨ao.ms (μ := dS μ id ⟨mp.c8, mp.base + o, mp.size⟩) (b := id) (o := 0) (z := z) (bS _ _ _) hroom (by show mp.base + o + 0 + cap * z ≤ mp.size; omega), ki.dS _ _ _⟩
theorem me.after {h1 : Hp} {α : Type} {s : Sem α} {Q : World → (Nat → Prop) → Mu → α → Prop} (E : Ext μ F hp w μ F h1 w) (h : me V μ F h1 w s hp' Q) : me V μ F hp w s hp' Q := by
  obtain ⟨μ', F', w', x, h1, h2, h3, h4⟩ := h
  exact ⟨μ', F', w', x, h1, h2, h3, E.trans h4⟩
end
theorem vW {P : Program} (w : World) (z c : Nat) (a : Option Addr) : (Builtin.firstCells z 0 (.slice a 0 c)).run P w = .ok ([] : List Value).toArray w := by
  cases a with
  | none => exact run_firstCells_none w z 0 0 c
  | some a => exact run_firstCells_some w z 0 a 0 c [] (by simp) (fun _ _ h => by cases h)
section
variable {V : Env} {M : Mem} (ok : cW M) {R : aa} (hR : R ≠ .fail)
include ok hR
theorem a4P {z : Nat} (hz : 0 < z) {n m p : Nat} {u r t : Row} (h : ∀ j, r.at j = if n ≤ j ∧ j < n + m then u.at (p + (j - n)) else t.at j) :
    (∀ i, i < m * z → cellAt z r (n * z + i) = cellAt z u (p * z + i)) ∧ ∀ i, i < n * z → cellAt z r i = cellAt z t i := have _ := ok; have _ := hR; 
  ⟨(qX hz h).1, fun i hi => (qX hz h).2 i (by omega)⟩
theorem a4E {N : NK} {hp : Hp} {id : Nat} (hN : iQ N hp id) {t tx ty e : TypeId} (ht : eI V.P t = some (.slice e)) (hk : (∃ e', V.P.underlying tx = some (.slice e')) ∨ V.P.underlying tx = some .string)
    {z : Nat} (hzk : fi V.P e z = true) (hz : 0 < z) (hsz : bw V.P e = z) (hby : bytesOf V.P e ≤ 65536) {a b : AV} {k : AV → Hp → aa} (g : cR M N z a b hp k = R) :
    ∃ v hp', k v hp' = R ∧ ∀ {w : World} {F : Nat → Prop} {μ : Mu} {u x : Value}, ao w F μ a u → ao w F μ b x → aP V μ F hp w → μ id = none → me V μ F hp w (Builtin.append_ #[t, tx] ty #[u, x]) hp' fun w F μ' r => ao w F μ' v r ∧ ki id μ μ' := by
  obtain ⟨i, zv, h1', h2, h3, h4, _⟩ := j8 hzk
  have hi : i.size = z := by rw [← hsz, dP h1']
  obtain ⟨u, p, m, f, g, hseq⟩ := a4z (V := V) ok hR hz g
  have none : m = 0 → k a hp = R → (∀ {w : World} {F : Nat → Prop} {μ : Mu} {v : Value}, ao w F μ a v → ∃ base n c, v = .slice base n c ∧ n ≤ c) → ∃ v hp', k v hp' = R ∧ ∀ {w : World} {F : Nat → Prop} {μ : Mu} {u x : Value}, ao w F μ a u → ao w F μ b x → aP V μ F hp w → μ id = none → me V μ F hp w (Builtin.append_ #[t, tx] ty #[u, x]) hp' fun w F μ' r => ao w F μ' v r ∧ ki id μ μ' := by
    intro hm g hsl
    refine ⟨a, hp, g, fun {w F μ v x} ha hb H _ => ?_⟩
    obtain ⟨base, n, c, rfl, hle⟩ := hsl ha
    obtain ⟨news, hs, _⟩ := hseq hb (H.read _)
    subst hm
    have hnil : news = [] := List.length_eq_zero_iff.1 (by rw [hs.size, Nat.zero_mul])
    subst hnil
    exact me.stay H (run_append_nothing w t tx ty e i (aE ht).1 h2 base n c hle x (by rw [hi]; exact hs.src hk)) ⟨ha, ki.refl _ _⟩
  rcases gV hR g with ⟨c, o, n, y, rfl, g⟩ | ⟨tt, o, n, y, rfl, g⟩ | ⟨i', tt, a', b', c, rfl, g⟩ | ⟨s, n, rfl, g⟩
  · obtain ⟨hy, g2⟩ := ax hR g
    rw [aF] at hy; subst hy
    rcases aM hR g2 with ⟨hm, g3⟩ | ⟨hm, g3⟩
    · rw [aF] at hm
      refine none hm g3 fun {w F μ v} ha => ?_
      cases ha with
      | ms _ hc _ => exact ⟨_, _, _, rfl, hc⟩
      | ms0 => exact ⟨_, _, _, rfl, Nat.le_refl _⟩
    · obtain ⟨fl, x', s, t0, hB, hs, hpr, g4⟩ := wM ok hR g3
      obtain ⟨hx, g5⟩ := ax hR g4
      rw [aF] at hx; subst hx
      obtain ⟨ho, g6⟩ := ax hR g5
      rw [aF] at ho
      have ho : o % x' = 0 := ho
      have hs : o + n * x' ≤ s := hs
      have hoz : Nat.div o x' * x' = o := Nat.div_mul_cancel (Nat.dvd_of_mod_eq_zero ho)
      have hm0 : ¬ m = 0 := fun e => by rw [← aF] at e; rw [e] at hm; cases hm
      have on : ∀ {t1 : Row}, (∀ i, i < n * x' → cellAt x' t1 i = cellAt x' t0 (o + i)) → jy M N x' c n fl t1 u p m f hp k = R → ∃ v hp', k v hp' = R ∧ ∀ {w : World} {F : Nat → Prop} {μ : Mu} {u x : Value}, ao w F μ (.ms c o n x') u → ao w F μ b x → aP V μ F hp w → μ id = Option.none → me V μ F hp w (Builtin.append_ #[t, tx] ty #[u, x]) hp' fun w F μ' r => ao w F μ' v r ∧ ki id μ μ' := by
        intro t1 ht1 g
        obtain ⟨r, hr, g⟩ := a5g ok hR _ g
        obtain ⟨h1, s1, hnx, g⟩ := kJ ok hR g
        rw [az] at g
        obtain ⟨hq, g⟩ := ax hR g
        rw [az] at g
        rw [bA] at hq
        obtain ⟨h2', g, s2, hid'⟩ := hN hR hnx s1.rb g
        obtain ⟨hr1, hr2⟩ := a4P ok hR hz hr
        have hr3 : ∀ i, i < n * x' → cellAt x' r i = cellAt x' t0 (o + i) := fun i hi => (hr2 i hi).trans (ht1 i hi)
        have hmz : (n + m) * x' = n * x' + m * x' := Nat.add_mul _ _ _
        refine ⟨_, _, g, fun {w F μ v x} ha hb H hid => ?_⟩
        obtain ⟨news, hsq, hnew, hfree⟩ := hseq hb (H.read _)
        have hnews : ∀ i, i < m * x' → ∃ y, news[i]? = some y ∧ ao w F μ (cellAt x' r (n * x' + i)) y := fun i hi => by rw [hr1 i hi]; exact hnew i hi
        have hfl : bp fl f = true → ∀ i, i < (n + m) * x' → (cellAt x' r i).cM = true := fun e i hi => by
          rw [cI] at e
          by_cases e2 : i < n * x'
          · rw [hr3 i e2]; exact (ofRow H hB).2 e.1 _ (by omega)
          · have := hr1 (i - n * x') (by omega)
            rw [show n * x' + (i - n * x') = i by omega] at this
            rw [this]; exact hfree e.2 _ (by omega)
        obtain ⟨hK, hKE⟩ := H.kill s1
        have grow : ∀ {base : Option Addr} {cap : Nat} {us : Nat → Value}, (∀ i, i < n * x' → (us i).oneCell' = true ∧ ao w F μ (cellAt x' t0 (o + i)) (us i)) → (Builtin.firstCells x' n (.slice base n cap)).run V.P w.drew = .ok (yV us (n * x')).toArray w.drew → cap < n + m →
            me V μ F hp w (Builtin.append_ #[t, tx] ty #[.slice base n cap, x]) h2' fun w F μ' r => ao w F μ' (.ms id 0 (n + m) x') r ∧ ki id μ μ' := fun {base cap us} hus hold hg => by
          refine me.after hKE (ug hK hid ht hk hzk hsz hby hold (gF _ _) hsq hg hq s2 hid' (fun i hi => ?_) hfl)
          by_cases e2 : i < n * x'
          · refine ⟨us i, ?_, (hus i e2).1, ?_⟩
            · rw [List.getElem?_append_left (by rw [gF]; exact e2), pn us _ i e2]
            · rw [hr3 i e2]; exact (hus i e2).2
          · obtain ⟨y, hy, hc⟩ := hnews (i - n * x') (by omega)
            rw [show n * x' + (i - n * x') = i by omega] at hc
            refine ⟨y, ?_, hsq.one y (List.mem_of_getElem? hy), hc⟩
            rw [List.getElem?_append_right (by rw [gF]; omega), gF]; exact hy
        cases ha with
        | ms0 =>
          exact grow (us := fun _ => .bool true) (fun i hi => absurd hi (by omega)) (by rw [Nat.zero_mul]; exact vW _ _ _ _) (by omega)
        | ms hm hc hcs =>
          rename_i cap mp
          by_cases hroom : n + m ≤ cap
          · exact a4n H hid ht hk hzk hsz hB hpr hm hs hcs hsq hroom s1 s2 hid' hr3 hnews hfl
          · have hb' := (H.c8 c)
            rw [hB] at hb'
            obtain ⟨us, hus⟩ := mT (fun i (hi : i < n * x') => hb'.cells hm (o + i) (by omega))
            refine grow (us := us) (fun i hi => (hus i hi).2) ?_ (by omega)
            exact run_firstCells_some w.drew x' n _ n cap _ (gF _ _) fun j v hj => by
              obtain ⟨hj1, rfl⟩ := sQ hj
              have := (hus j hj1).1
              rw [Addr.add_mid, Nat.add_assoc]; exact (zF (w' := w.drew) (w := w) rfl _).trans this
      rcases aM hR g6 with ⟨ho0, g7⟩ | ⟨_, g7⟩
      · rw [aF] at ho0
        exact on (fun i _ => by rw [ho0, Nat.zero_add]) g7
      · obtain ⟨r, hr, g8⟩ := a5g ok hR _ g7
        refine on (fun i hi => ?_) g8
        have := (qX hz hr).1 i hi
        rw [Nat.zero_mul, Nat.zero_add] at this
        rw [this]
        exact congrArg (fun q => cellAt x' t0 (q + i)) hoz
  · obtain ⟨hm, g⟩ := ax hR g
    rw [aF] at hm
    refine none hm g fun {w F μ v} ha => ?_
    cases ha with
    | vs _ _ hc _ _ _ => exact ⟨_, _, _, rfl, hc⟩
    | vs0 => exact ⟨_, _, _, rfl, Nat.zero_le _⟩
  · obtain ⟨hg, g⟩ := ax hR g
    rw [Bool.or_eq_true, aF, aF] at hg
    have hsl : ∀ {w : World} {F : Nat → Prop} {μ : Mu} {v : Value}, ao w F μ (.x i' tt a' b' c) v → ∃ base, v = .slice base 0 0 := fun ha => by
      rcases hg with rfl | rfl <;> cases ha <;> exact ⟨_, rfl⟩
    rcases aM hR g with ⟨hm, g⟩ | ⟨hm, g⟩
    · rw [aF] at hm
      exact none hm g fun ha => let ⟨b, hb⟩ := hsl ha; ⟨b, 0, 0, hb, Nat.le_refl _⟩
    · have hm0 : ¬ m = 0 := fun e => by rw [← aF] at e; rw [e] at hm; cases hm
      obtain ⟨hq, g⟩ := ax hR g
      rw [bA] at hq
      rw [az] at g
      have on : ∀ {r : Row}, (∀ i, i < m * z → cellAt z r i = cellAt z u (p * z + i)) → N.f hp (.row true f z (Nat.mul m z) r) (fun id hp => k (.ms id 0 m z) hp) = R → ∃ v hp', k v hp' = R ∧ ∀ {w : World} {F : Nat → Prop} {μ : Mu} {u x : Value}, ao w F μ (.x i' tt a' b' c) u → ao w F μ b x → aP V μ F hp w → μ id = Option.none → me V μ F hp w (Builtin.append_ #[t, tx] ty #[u, x]) hp' fun w F μ' r => ao w F μ' v r ∧ ki id μ μ' := by
        intro r hr g
        obtain ⟨h2', g, s2, hid'⟩ := hN hR rfl rfl g
        refine ⟨_, _, g, fun {w F μ v x} ha hb H hid => ?_⟩
        obtain ⟨news, hsq, hnew, hfree⟩ := hseq hb (H.read _)
        obtain ⟨base, rfl⟩ := hsl ha
        have e0 : (0 + m) * z = m * z := by rw [Nat.zero_add]
        have := ug (n := 0) (cap := 0) (olds := []) (fl := f) (r := r) (hp' := h2') (id := id) (ty := ty) H hid ht hk hzk hsz hby (vW _ _ _ base) (by rw [Nat.zero_mul]; rfl) hsq (by omega) (by omega) (by rw [e0]; exact s2) hid' (fun i hi => by
          rw [e0] at hi
          obtain ⟨y, hy, hc⟩ := hnew i hi
          exact ⟨y, by rw [List.nil_append]; exact hy, hsq.one y (List.mem_of_getElem? hy), by rw [hr i hi]; exact hc⟩) (fun e i hi => by rw [e0] at hi; rw [hr i hi]; exact hfree e i hi)
        rw [Nat.zero_add] at this
        exact this
      rcases aM hR g with ⟨hp0, g⟩ | ⟨_, g⟩
      · rw [aF] at hp0
        exact on (fun i _ => by rw [hp0, Nat.zero_mul, Nat.zero_add]) g
      · obtain ⟨r, hr, g⟩ := a5g ok hR _ g
        refine on (fun i hi => ?_) g
        have := (qX hz hr).1 i hi
        rw [Nat.zero_mul, Nat.zero_add] at this
        exact this
  · exact an hR g
end
structure New (V : Env) {α : Type} (Q : World → (Nat → Prop) → Mu → α → Prop) (s : α → Sem Value) (id : Nat) (B : bX) (v : AV) : Prop where
  out : ∀ {w : World} {F : Nat → Prop} {μ : Mu} {u : α} {h h' : Hp}, Q w F μ u → μ id = none → aP V μ F h w → fq h id B h' → id < h'.nx → me V μ F h w (s u) h' fun w F μ' r => ao w F μ' v r ∧ ki id μ μ'
section
variable {V : Env} {M : Mem} (ok : cW M) {R : aa} (hR : R ≠ .fail)
theorem vI {id : Nat} {z sz : Nat} {fl : Bool} {r : Row} {α : Type} {Q : World → (Nat → Prop) → Mu → α → Prop} {s : α → Sem Value} {v : AV}
    (hfl : fl = true → ∀ i, i < sz → (cellAt z r i).cM = true)
    (H : ∀ {w : World} {F : Nat → Prop} {μ : Mu} {u : α}, Q w F μ u → ∃ x w' c T fz, (s u).run V.P w = .ok x w' ∧ (w'.heap = w.heap.push (.cells c T fz) ∧ fU w w') ∧ (fz.1 = fz.2 ∨ c.size ≤ fz.1) ∧
      (∀ i, i < sz → ∃ y, c[i]? = some y ∧ y.oneCell' = true ∧ ao w F μ (cellAt z r i) y) ∧ ∀ {μ' : Mu}, μ' id = some ⟨w.heap.size, 0, c.size⟩ → ao w' F μ' v x) : New V Q s id (.row true fl z sz r) v := by
  refine ⟨fun {w F μ u h h'} hq hid hH hs hn => ?_⟩
  obtain ⟨x, w', c, T, fz, h1, h2, h3, h4, h5⟩ := H hq
  obtain ⟨hH', hE⟩ := hH.row hid h2.1 hs hn h3 h4 hfl h2.2
  exact ⟨_, _, w', x, h1, ⟨h5 (bS _ _ _), ki.dS _ _ _⟩, hH', hE⟩
theorem a5r {P : Program} (t : TypeId) (u : Value) (w : World) : (Instr.box t u).run P w = .ok (.pointer (some ⟨w.heap.size, 0, none⟩)) (w.alloc (.cells u.cells t)) := by
  simp [Instr.box, newVar, newRow]
theorem a6x {z : Nat} {l : Row} {n i : Nat} (hi : i < z) (hz : ¬ z = 1) : cellAt z (.nd (.agg l n) .lf .lf) i = nth l i := by
  rw [cellAt, if_neg hz, Nat.div_eq_of_lt hi, Nat.mod_eq_of_lt hi]; rfl
include ok hR
theorem a4A {N : NK} {hp : Hp} {id : Nat} (hN : iQ N hp id) {t : TypeId} {v : AV} {z sz : Nat} {k : AV → Hp → aa} (g : cF M N v z sz hp k = R) :
    ∃ B hp', k (.ptr id 0) hp' = R ∧ fq hp id B hp' ∧ id < hp'.nx ∧ New V (fun w F μ u => ao w F μ v u) (Instr.box t) id B (.ptr id 0) := by
  have fin : ∀ {zz : Nat} {p : Bool} {r : Row}, Fits v sz → (∀ i, i < sz → cellAt zz r i = cv v i) → (p = true → ∀ i, i < sz → (cv v i).cM = true) → N.f hp (.row true p zz sz r) (fun id hp => k (.ptr id 0) hp) = R →
      ∃ B hp', k (.ptr id 0) hp' = R ∧ fq hp id B hp' ∧ id < hp'.nx ∧ New V (fun w F μ u => ao w F μ v u) (Instr.box t) id B (.ptr id 0) := by
    intro zz p r hf hc hp0 g
    obtain ⟨h', g, hs, hn⟩ := hN hR rfl rfl g
    refine ⟨_, h', g, hs, hn, vI (fun e i hi => by rw [hc i hi]; exact hp0 e i hi) fun {w F μ u} hu => ?_⟩
    obtain ⟨hc1, hc2⟩ := pJ hf hu
    refine ⟨_, _, u.cells, t, (0, 0), a5r t u w, ⟨rfl, rfl, rfl⟩, .inl rfl, fun i hi => ?_, fun {μ'} hm => ?_⟩
    · obtain ⟨y, h1, h2, h3⟩ := hc2 i hi
      exact ⟨y, h1, h2, by rw [hc i hi]; exact h3⟩
    · exact ao.ptr hm
  rcases aM hR g with ⟨hs, g⟩ | ⟨hs, g⟩
  · rw [aF] at hs
    subst hs
    obtain ⟨c, p, hf, hcv, hpl, g2⟩ := tg ok hR (by assumption)
    subst hcv
    refine fin hf (fun i hi => ?_) (fun e i hi => ?_) g2
    · have : i = 0 := by omega
      subst this; rfl
    · have : i = 0 := by omega
      subst this; exact fx (hpl e)
  · have hs1 : ¬ sz = 1 := fun e => by rw [← aF, hs] at e; exact Bool.noConfusion e
    obtain ⟨l, n, rfl, g⟩ := gb hR g
    obtain ⟨hn, g⟩ := ax hR g
    rw [aF] at hn
    subst hn
    obtain ⟨p, hpl, g⟩ := kX g
    have hfree : p = true → ∀ i, i < n → (cv (.agg l n) i).cM = true := fun e i hi => by
      show (nth l i).cM = true
      by_cases hl : i < len l
      · exact fx (hpl e i hl)
      · rw [yv (by omega)]; rfl
    rcases aM hR g with ⟨hz, g⟩ | ⟨hz, g⟩
    · exact fin (.agg l n) (fun i hi => a6x hi hs1) hfree g
    · rcases aM hR g with ⟨hz1, g⟩ | ⟨hz1, g⟩
      · obtain ⟨r, hr, g⟩ := wo ok hR _ g
        refine fin (.agg l n) (fun i hi => ?_) hfree g
        rw [hr, if_pos (by omega)]; rfl
      · obtain ⟨h2, g⟩ := ax hR g
        obtain ⟨hd, g⟩ := ax hR g
        rw [bA] at h2
        rw [aF] at hd
        have hd : n / z * z = n := hd
        obtain ⟨r, hr, g⟩ := abv ok hR _ g
        refine fin (.agg l n) (fun i hi => ?_) hfree g
        have hlt : i / z < n / z := (Nat.div_lt_iff_lt_mul (by omega)).2 (by omega)
        obtain ⟨a, ha, hb⟩ := (hr (i / z)).1 ⟨Nat.zero_le _, by rw [Nat.zero_add]; exact hlt⟩
        have hz1 : ¬ z = 1 := by omega
        rw [cellAt, if_neg hz1, ha]
        show nth a (i % z) = nth l i
        rw [hb _ (Nat.mod_lt _ (by omega)), Nat.sub_zero, Nat.div_add_mod' i z]
omit ok hR in
theorem a9t {P : Program} {t : TypeId} {i : TypeInfo} {v : Value} (h : P.info? t = some i) (hz : i.zero = some v) (w : World) : (Instr.alloc t true (.tuple #[])).run P w = (Instr.box t v).run P w := by
  simp [Instr.alloc, Instr.box, zeroValue, typeInfo, h, hz]
theorem a5F {N : NK} {hp : Hp} {id : Nat} (hN : iQ N hp id) {t : TypeId} {z sz : Nat} {k : AV → Hp → aa} (hk : eL (dI V.P t) = true) (g : cF M N (dI V.P t) z sz hp k = R) :
    ∃ B hp', k (.ptr id 0) hp' = R ∧ fq hp id B hp' ∧ id < hp'.nx ∧ New V (fun _ _ _ (_ : Unit) => True) (fun _ => Instr.alloc t true (.tuple #[])) id B (.ptr id 0) := by
  obtain ⟨i, v, h1, h2, h3, h4⟩ := xQ hk
  obtain ⟨B, hp', g, hs, hn, H⟩ := a4A (V := V) (t := t) ok hR hN g
  refine ⟨B, hp', g, hs, hn, ⟨fun {w F μ u h h'} _ hid hH hs hn => ?_⟩⟩
  have := H.out (w := w) (F := F) (μ := μ) (u := v) (h := h) (h' := h') (by rw [h4]; exact pe v) hid hH hs hn
  unfold me at *
  rw [a9t h2 h3]; exact this
end
section
variable {V : Env} {M : Mem} (ok : cW M) {R : aa} (hR : R ≠ .fail)
theorem lu {w : World} {F : Nat → Prop} {μ : Mu} {i m : Nat} {u : Value} (hn : 4 ≤ i ∨ m < hf i) (h : ao w F μ (.int i m) u) : u = .int (kd i) (m : Int) := by
  obtain ⟨hm, rfl⟩ := ga h
  rw [jl i m hm hn]
include hR in
theorem mc {v : AV} {n : Nat} {k : Nat → aa} (g : gY v n k = R) : ∃ i m, v = .int i m ∧ m ≤ n ∧ (4 ≤ i ∨ m < hf i) ∧ k m = R := by
  obtain ⟨i, m, rfl, g⟩ := dR hR g
  obtain ⟨hm, g⟩ := ax hR g
  obtain ⟨hn, g⟩ := qp hR g
  rw [bA] at hm
  exact ⟨i, m, rfl, hm, hn, g⟩
include hR in
theorem lQ {v : AV} {n : Nat} {k : Nat → aa} (g : fP v n k = R) : ∃ i m, v = .int i m ∧ m < n ∧ (4 ≤ i ∨ m < hf i) ∧ k m = R := by
  obtain ⟨i, m, rfl, g⟩ := dR hR g
  obtain ⟨hm, g⟩ := ax hR g
  obtain ⟨hn, g⟩ := qp hR g
  rw [bA] at hm
  exact ⟨i, m, rfl, hm, hn, g⟩
theorem wrap_i64 (n : Nat) (h : n < 9223372036854775808) : IntKind.i64.wrap (n : Int) = n := by
  have := jl 3 n (by show n < 18446744073709551616; omega) (.inr h)
  exact this
theorem uG {z n : Nat} (hz : 0 < z) {v : AV} {i : Nat} (hi : i < n * z) : cellAt z (Tr.full v (depth n)) i = if z = 1 then v else elc v (i % z) := by
  have hd : i / z < n := (Nat.div_lt_iff_lt_mul hz).2 hi
  have hdep := adf n
  by_cases h1 : z = 1
  · subst h1; rw [cellAt, if_pos rfl, if_pos rfl, a7i v _ _ (by rw [Nat.div_one] at hd; omega)]
  · rw [cellAt, if_neg h1, if_neg h1, a7i v _ _ (by generalize i / z = d at hd; omega)]
include hR in
theorem a2x {N : NK} {hp : Hp} {id : Nat} (hN : iQ N hp id) {t u e : TypeId} {ty : TypeId} {kn : IntKind} (ht : eI V.P t = some (.slice e)) (hu : eI V.P u = some (.int kn)) {z : Nat} (hsz : bw V.P e = z) (h1 : 1 ≤ z) (hz : fi V.P e z = true) (hb : bytesOf V.P e ≤ 65536) {a b : AV} {k : AV → Hp → aa}
    (g : (a.onX fun q _ _ _ _ => ar (Nat.beq q 8) (gY b 1073741824 fun n => ar (Nat.ble 1 n) (aG (Nat.mul n z) fun s => N.f hp (.row true true z s (Tr.full (gr V.P e) (depth n))) fun id hp => k (.ms id 0 n z) hp))) = R) :
    ∃ B v hp', k v hp' = R ∧ fq hp id B hp' ∧ id < hp'.nx ∧ New V (fun w F μ (u : Value × Value) => ao w F μ a u.1 ∧ ao w F μ b u.2) (fun x => Builtin.append_ #[t, u] ty #[x.1, x.2]) id B v := by
  obtain ⟨q, u1, u2, u3, u4, rfl, g⟩ := a25 hR g
  obtain ⟨hq, g⟩ := ax hR g
  rw [aF] at hq
  subst hq
  obtain ⟨j, n, rfl, hn, hnn, g⟩ := mc hR g
  obtain ⟨hn1, g⟩ := ax hR g
  rw [bA] at hn1
  rw [az] at g
  obtain ⟨h', g, hs, hid⟩ := hN hR rfl rfl g
  obtain ⟨i, zv, q1, q2, q3, q4, q5⟩ := j8 hz
  have hi : i.size = z := by rw [← hsz, dP q1]
  have hbi : i.bytes ≤ 65536 := by unfold bytesOf at hb; rw [q1] at hb; exact hb
  have hc : ∀ i, i < n * z → cellAt z (Tr.full (gr V.P e) (depth n)) i = zc V.P e z (i % z) := fun i hi => by rw [uG (by omega) hi]; rfl
  refine ⟨_, _, h', g, hs, hid, vI (fun _ i hi => ?_) fun {w F μ u} ⟨ha, hb⟩ => ?_⟩
  · rw [hc i hi]
    obtain ⟨y, _, _, _, hf⟩ := q5 (i % z) (Nat.mod_lt _ (by omega))
    exact hf
  · obtain ⟨v1, v2⟩ := u
    have e1 : v1 = .slice none 0 0 := by
      have ha' : ao w F μ (.x 8 u1 u2 u3 u4) v1 := ha
      cases ha'; rfl
    have e2 := lu hnn hb
    have hby : n * i.bytes ≤ 281474976710656 := Nat.le_trans (Nat.mul_le_mul hn hbi) (by decide)
    have hcells : ∀ j, j < n * z → ∃ y, (Builtin.zeroCells zv.cells n)[j]? = some y ∧ zv.cells[j % z]? = some y := fun j hj => by
      obtain ⟨y, h1, _⟩ := q5 (j % z) (Nat.mod_lt _ (by omega))
      refine ⟨y, ?_, h1⟩
      simp only [Builtin.zeroCells, Array.getElem?_map, Array.getElem?_range, q4, if_pos hj, Option.map_some]
      rw [getElem!_def, h1]
    have e2' : v2 = .int (kd j) (n : Int) := e2
    subst e1; subst e2'
    refine ⟨_, w.drew.alloc (.cells (Builtin.zeroCells zv.cells n ++ Builtin.zeroCells zv.cells (grownCap w n 0 e - n)) e), _, e, (0, 0), Lib.run_append_nil_zeros w t _ ty e i zv _ _ (aE ht).1 (aE hu).1 q2 q3 n hn1 (by omega) (by omega) hby, ⟨rfl, rfl, rfl⟩, .inl rfl, fun j hj => ?_, fun {μ'} hμ => ?_⟩
    · obtain ⟨y0, h1, h2, h3, _⟩ := q5 (j % z) (Nat.mod_lt _ (by omega))
      obtain ⟨y, r1, r2⟩ := hcells j hj
      rw [r2] at h1; cases h1
      exact ⟨_, by rw [Array.getElem?_append_left (Array.getElem?_eq_some_iff.1 r1).1]; exact r1, h2, by rw [hc j hj]; exact h3 _ _ _⟩
    · have hcap : n ≤ grownCap w n 0 e := grownCap_ge w n 0 e
      refine ao.ms hμ hcap ?_
      show 0 + 0 + grownCap w n 0 e * z ≤ (Builtin.zeroCells zv.cells n ++ Builtin.zeroCells zv.cells (grownCap w n 0 e - n)).size
      rw [Array.size_append, kC, kC, q4, ← Nat.add_mul]
      have : n + (grownCap w n 0 e - n) = grownCap w n 0 e := by omega
      rw [this]; omega
end
def ab2 : List Nat → Nat
  | [] => 0
  | x :: r => x + 256 * ab2 r
theorem a8m : ∀ l : List UInt8, aL l = ab2 (l.map (·.toNat))
  | [] => rfl
  | b :: l => by rw [eZ, a8m l]; rfl
section
variable {V : Env} {M : Mem} (ok : cW M) {R : aa} (hR : R ≠ .fail)
theorem oO {P : Program} {e : TypeId} (h : a2U P e = true) : P.underlying e = some (.int .u8) := by
  unfold a2U at h
  cases hu : eI P e with
  | none => rw [hu] at h; exact Bool.noConfusion h
  | some d =>
    rw [hu] at h
    cases d with
    | int q => cases q <;> first | exact (aE hu).1 | exact Bool.noConfusion h
    | _ => exact Bool.noConfusion h
include ok hR
theorem adg (n : Nat) : ∀ {t : Row} {o : Nat} {k : Nat → aa}, (pack M n).f t o k = R → ∃ xs : List Nat, xs.length = n ∧ (∀ j (h : j < xs.length), t.at (o + j) = .int 4 xs[j]) ∧ k (ab2 xs) = R := by
  induction n with
  | zero => intro t o k g; exact ⟨[], rfl, fun j h => absurd h (Nat.not_lt_zero _), g⟩
  | succ n ih =>
    intro t o k g
    have g1 := ok.rg hR (k := fun v => v.bV fun i x => ar (Nat.beq i 4) ((pack M n).f t (Nat.succ o) fun r => aG (Nat.add x (Nat.mul 256 r)) k)) g
    obtain ⟨i, x, hx, g1⟩ := dR hR g1
    obtain ⟨hi, g1⟩ := ax hR g1
    rw [aF] at hi
    obtain ⟨xs, h1, h2, h3⟩ := ih g1
    rw [az] at h3
    refine ⟨x :: xs, by rw [List.length_cons, h1], fun j hj => ?_, h3⟩
    cases j with
    | zero => have hx : t.at o = .int i x := hx; show t.at o = .int 4 x; rw [hx, hi]
    | succ j =>
      have hj' : j < xs.length := by rw [List.length_cons] at hj; omega
      have := h2 j hj'
      show t.at (o + (j + 1)) = .int 4 (xs[j]'hj')
      rw [← this]; congr 1; omega
theorem a1H {src dst e : TypeId} (hs : eI V.P src = some (.slice e)) (he : a2U V.P e = true) (hd : eI V.P dst = some .string) {a : AV} (hsl : (∃ b o n z, a = .ms b o n z) ∨ ∃ t o n z, a = .vs t o n z) {hp : Hp} {k : AV → aa}
    (g : (my M 1 a hp fun t o n _ => (pack M n).f t o fun s => k (.str s n)) = R) : ∃ v, k v = R ∧ gE hp a ∧ acO V (convert src dst) hp a v := by
  have live : gE hp a := fun c hc => by
    rcases hsl with ⟨b, o, n, z, rfl⟩ | ⟨t, o, n, z, rfl⟩
    · have hc : b = c := by cases n with | zero => cases hc | succ n => cases hc; rfl
      subst hc
      obtain ⟨_, g⟩ := ax hR (show ar (Nat.beq z 1) _ = R from g)
      obtain ⟨_, _, _, _, _, hB, _⟩ := mg ok hR g
      rw [hB]; trivial
    · cases hc
  obtain ⟨u, p, m, f, g, hseq⟩ := a4z (V := V) ok hR Nat.one_pos g
  obtain ⟨xs, hx1, hx2, g⟩ := adg ok hR _ g
  refine ⟨_, g, live, fun {w F μ x} ha hr => ?_⟩
  obtain ⟨news, hsq, hnew, _⟩ := hseq ha hr
  have hshape : ∃ ad n c, x = .slice (some ad) n c := by
    rcases hsl with ⟨b, o, n, z, rfl⟩ | ⟨t, o, n, z, rfl⟩ <;> cases ha <;> exact ⟨_, _, _, rfl⟩
  obtain ⟨ad, n, c, rfl⟩ := hshape
  have hn : n = m := by
    have := hsq.len w
    simp only [Builtin.lenOf, Sem.run_pure] at this
    injection this
  subst hn
  have hx : ∀ j (h : j < xs.length), xs[j] < 256 ∧ news[j]? = some (.int .u8 (xs[j] : Int)) := fun j h => by
    obtain ⟨y, hy, hc⟩ := hnew j (by omega)
    have e1 : cellAt 1 u (p * 1 + j) = .int 4 xs[j] := by rw [cellAt, if_pos rfl, Nat.mul_one]; exact hx2 j h
    rw [e1] at hc
    obtain ⟨hlt, rfl⟩ := ga hc
    exact ⟨hlt, by rw [hy, jl 4 _ hlt (.inl (Nat.le_refl _))]; rfl⟩
  have hnl : news = (xs.map fun x : Nat => (x : Int)).map (Value.int .u8) := by
    apply List.ext_getElem?
    intro j
    by_cases hj : j < xs.length
    · rw [(hx j hj).2]; simp [hj]
    · rw [List.getElem?_eq_none (by rw [hsq.size]; omega), List.getElem?_eq_none (by simp; omega)]
  have hto : xs.map (fun x : Nat => (x : Int)) = (xs.map UInt8.ofNat).map (fun b => (b.toNat : Int)) := by
    rw [List.map_map]
    apply List.map_congr_left
    intro x hxm
    obtain ⟨j, hj, rfl⟩ := List.mem_iff_getElem.1 hxm
    have := (hx j hj).1
    show ((xs[j] : Nat) : Int) = ((UInt8.ofNat xs[j]).toNat : Int)
    rw [UInt8.toNat_ofNat']; omega
  have hload : (loadCells ad n).run V.P w = .ok ((xs.map fun x : Nat => (x : Int)).map (Value.int .u8)).toArray w := by
    have := hsq.cells w rfl n (Nat.le_refl _)
    rw [List.take_of_length_le (by rw [hsq.size]; exact Nat.le_refl _), hnl] at this
    simpa only [Builtin.firstCells, Nat.mul_one] using this
  refine ⟨_, by rw [run_convert_bytes_string w src dst e (some ad) n c (aE hs).1 (oO he) (aE hd).1, run_bytesToString w ad n c _ hload], ?_⟩
  rw [hto, foldl_push_byteCells]
  have he0 : ByteArray.empty.data = #[] := rfl
  rw [he0]
  refine rR ?_ ?_
  · rw [a8m]
    simp only [Array.empty_append, List.map_map]
    congr 1
    symm
    apply List.ext_getElem
    · simp
    · intro j h1 h2
      have hj : j < xs.length := h2
      have := (hx j hj).1
      simp [UInt8.toNat_ofNat']; omega
  · show n = (#[] ++ (xs.map UInt8.ofNat).toArray).size
    simp [hx1]
theorem a1b {N : NK} {hp : Hp} {id : Nat} (hN : iQ N hp id) {src dst e : TypeId} (hs : eI V.P src = some .string) (he : a2U V.P e = true) (hd : eI V.P dst = some (.slice e)) {a : AV} {k : AV → Hp → aa}
    (g : (a.ea fun s n => (unpack M n).f s 0 .lf fun r => N.f hp (.row true true 1 n r) fun id hp => k (.ms id 0 n 1) hp) = R) :
    ∃ B v hp', k v hp' = R ∧ fq hp id B hp' ∧ id < hp'.nx ∧ New V (fun w F μ u => ao w F μ a u) (convert src dst) id B v := by
  obtain ⟨s, n, rfl, g⟩ := dO hR g
  obtain ⟨r, hr, g⟩ := wW ok hR n g
  obtain ⟨h', g, hset, hid⟩ := hN hR rfl rfl g
  have hat : ∀ i, i < n → cellAt 1 r i = .int 4 (s / 256 ^ i % 256) := fun i hi => by rw [cellAt, if_pos rfl, hr, if_pos (by omega), Nat.sub_zero]
  refine ⟨_, _, h', g, hset, hid, vI (fun _ i hi => by rw [hat i hi]; rfl) fun {w F μ u} ha => ?_⟩
  obtain ⟨B, rfl, h1, rfl⟩ := iF ha
  refine ⟨_, _, _, e, _, run_bytes_of_string w src dst e B (aE hs).1 (aE hd).1 (oO he), ⟨rfl, rfl, rfl⟩, .inr (Nat.le_refl _), fun i hi => ?_, fun {μ'} hμ => ?_⟩
  · have hi' : i < B.data.toList.length := by rw [Array.length_toList]; exact hi
    have hi2 : i < B.data.size := hi
    refine ⟨.int .u8 ((B.data.toList[i]).toNat : Int), ?_, rfl, ?_⟩
    · unfold bytesRow
      rw [Array.getElem?_append, if_pos (by rw [Array.size_map]; exact hi), Array.getElem?_map, Array.getElem?_eq_getElem hi2]
      simp
    · rw [hat i hi, h1, pF _ i hi']; exact vQ _
  · refine ao.ms hμ (grownCap_ge w B.size 0 e) ?_
    show 0 + 0 + grownCap w B.size 0 e * 1 ≤ (bytesRow B (grownCap w B.size 0 e)).size
    have := grownCap_ge w B.size 0 e
    have h2 : B.data.size = B.size := rfl
    simp only [bytesRow, Array.size_append, Array.size_map, Array.size_replicate, h2]
    omega
end
end Go.Proofs.YtbamejikafhenaaDoor.Ev
