import Derived.Test.YtdlohaedegmiaaaGreatDoorEvAD
import Derived.Deep.Upon
namespace Go.Proofs.YtdlohaedegmiaaaGreatDoor.Ev
theorem gP {B : Nat} : ∀ (vs : List Value) (o : Nat) (w : World) (c : Array Value) (T : TypeId) (fz : Nat × Nat), w.heap[B]? = some (.cells c T fz) →
    ∃ c', (w.setCells B o vs).heap[B]? = some (.cells c' T fz) ∧ c'.size = c.size ∧ ∀ j, c'[j]? = if o ≤ j ∧ j < o + vs.length ∧ j < c.size then vs[j - o]? else c[j]?
  | [], o, w, c, T, fz, h => ⟨c, h, rfl, fun j => by rw [if_neg (by simp only [List.length_nil]; omega)]⟩
  | v :: r, o, w, c, T, fz, h => by
    have h1 : (w.setCell ⟨B, o, none⟩ v).heap[B]? = some (.cells (c.setIfInBounds o v) T fz) := by
      simp only [World.setCell, Array.getElem?_modify, h]
      simp
    obtain ⟨c', h2, h3, h4⟩ := gP r (o + 1) _ _ _ _ h1
    refine ⟨c', h2, by rw [h3, Array.size_setIfInBounds], fun j => ?_⟩
    rw [h4 j, Array.size_setIfInBounds, Array.getElem?_setIfInBounds]
    by_cases e : j = o
    · subst e
      rw [if_neg (by omega)]
      by_cases hj : j < c.size
      · rw [if_pos rfl, if_pos hj, if_pos ⟨Nat.le_refl _, by simp only [List.length_cons]; omega, hj⟩, Nat.sub_self]; rfl
      · rw [if_pos rfl, if_neg hj, if_neg (by omega), Array.getElem?_eq_none (by omega)]
    · by_cases e1 : o + 1 ≤ j ∧ j < o + 1 + r.length ∧ j < c.size
      · rw [if_pos e1, if_pos (by simp only [List.length_cons]; omega), show j - o = (j - (o + 1)) + 1 by omega]; rfl
      · rw [if_neg e1, if_neg (Ne.symm e), if_neg (by simp only [List.length_cons]; omega)]
theorem dm {B X : Nat} (h : X ≠ B) : ∀ (vs : List Value) (o : Nat) (w : World), (w.setCells B o vs).heap[X]? = w.heap[X]?
  | [], _, _ => rfl
  | v :: r, o, w => by
    rw [World.setCells, dm h r]
    simp only [World.setCell, Array.getElem?_modify]
    rw [if_neg (Ne.symm h)]
theorem eO {B : Nat} : ∀ (vs : List Value) (o : Nat) (w : World), (w.setCells B o vs).heap.size = w.heap.size
  | [], _, _ => rfl
  | v :: r, o, w => by rw [World.setCells, eO r]; simp only [World.setCell, Array.size_modify]
theorem gQ {B : Nat} : ∀ (vs : List Value) (o : Nat) (w : World), bA w (w.setCells B o vs)
  | [], _, w => .refl w
  | v :: r, o, w => by rw [World.setCells]; exact bA.trans ⟨rfl, rfl⟩ (gQ r _ _)
def cI (id : Nat) (μ μ' : Mu) : Prop := ∀ b, μ' b ≠ none → μ b ≠ none ∨ b = id
theorem cI.refl (id : Nat) (μ : Mu) : cI id μ μ := fun _ h => .inl h
theorem cI.jK (id : Nat) (μ : Mu) (m : Mp) : cI id μ (jK μ id m) := fun b h => by
  by_cases e : b = id
  · exact .inr e
  · rw [bc μ m e] at h; exact .inl h
def cb (V : Env) (μ : Mu) (F : Nat → Prop) (hp : Hp) (w : World) {α : Type} (s : Sem α) (hp' : Hp) (Q : World → (Nat → Prop) → Mu → α → Prop) : Prop :=
  ∃ μ' F' w' x, s.run V.P w = .ok x w' ∧ Q w' F' μ' x ∧ au V μ' F' hp' w' ∧ Ext μ F hp w μ' F' hp' w'
section
variable {V : Env} {μ : Mu} {F : Nat → Prop} {hp hp' : Hp} {w : World}
theorem au.write (H : au V μ F hp w) {b : Nat} {fl fl' : Bool} {z s : Nat} {t t' : Row} {m : Mp} (hB : hp.at b = .row true fl z s t) (hpr : b ∉ hp.pr) (hm : μ b = some m) {o : Nat} {vs : List Value} (ho : o + vs.length ≤ s)
    (hv : ∀ i, i < vs.length → ∃ y, vs[i]? = some y ∧ y.oneCell' = true ∧ ae w F μ (cellAt z t' (o + i)) y) (hrest : ∀ j, j < s → ¬ (o ≤ j ∧ j < o + vs.length) → cellAt z t' j = cellAt z t j)
    (hfl : fl' = true → ∀ i, i < s → (cellAt z t' i).aS = true) (hs : br hp b (.row true fl' z s t') hp') :
    au V μ F hp' (w.setCells m.aF (m.base + o) vs) ∧ Ext μ F hp w μ F hp' (w.setCells m.aF (m.base + o) vs) ∧ (storeCells ⟨m.aF, m.base + o, none⟩ vs).run V.P w = .ok () (w.setCells m.aF (m.base + o) vs) := by
  have hb := H.aF b
  rw [hB] at hb
  obtain ⟨m', c, T, fz, h1, h2, h3, h4, h5, h6, _⟩ := hb
  rw [hm] at h1; cases h1
  obtain ⟨h6a, h6b⟩ := h6 rfl
  obtain ⟨c', h7, h8, h9⟩ := gP vs (m.base + o) w c T fz h2
  have hin : ∀ i, i < s → m.base + i < c.size := fun i hi => by
    obtain ⟨u, hu, _⟩ := h4 i hi
    exact (Array.getElem?_eq_some_iff.1 hu).1
  have hwr : (hp.at b).wr := by rw [hB]; exact rfl
  have hF : ∀ X, F X → (w.setCells m.aF (m.base + o) vs).heap[X]? = w.heap[X]? := fun X hX => dm (B := m.aF) (X := X) (fun e => h6b (by rw [← e]; exact hX)) _ _ _
  obtain ⟨hH, hE⟩ := H.set hwr hpr hm (eO vs (m.base + o) w) (fun X hX => dm hX vs _ w) hs (by
    refine ⟨m, c', T, fz, hm, h7, h8.trans h3, fun i hi => ?_, hfl, fun _ => ⟨h8 ▸ h6a, h6b⟩, fun e => Bool.noConfusion e⟩
    by_cases e : o ≤ i ∧ i < o + vs.length
    · obtain ⟨y, hy, h1y, hc⟩ := hv (i - o) (by omega)
      rw [show o + (i - o) = i by omega] at hc
      refine ⟨y, ?_, h1y, hc.mono hF (fun _ h => h) (fun _ _ h => h)⟩
      rw [h9, if_pos ⟨by omega, by omega, hin i hi⟩, show m.base + i - (m.base + o) = i - o by omega]; exact hy
    · obtain ⟨y, hy, h1y, hc⟩ := h4 i hi
      refine ⟨y, ?_, h1y, ?_⟩
      · rw [h9, if_neg (by omega)]; exact hy
      · rw [hrest i hi e]; exact hc.mono hF (fun _ h => h) (fun _ _ h => h)) (hio := gQ _ _ _)
  refine ⟨hH, hE, ?_⟩
  have := run_storeCells_cells (P := V.P) m.aF (m.base + o) vs 0 w (fun j hj => ?_) (fun j hj => ?_) (fun v hv' => ?_)
  · simpa only [Nat.add_zero] using this
  · have hj' := hin (o + j) (by omega)
    rw [Nat.add_zero, cell_of h2, Array.getElem?_eq_getElem (by omega)]; rfl
  · have hj' := hin (o + j) (by omega)
    have := h6a
    rw [Nat.add_zero]
    simp only [World.frozen?, h2]
    simp only [Bool.and_eq_false_iff, decide_eq_false_iff_not]
    omega
  · obtain ⟨i, hi, rfl⟩ := List.mem_iff_getElem.1 hv'
    obtain ⟨y, hy, h1y, _⟩ := hv i hi
    rw [List.getElem?_eq_getElem hi] at hy; cases hy; exact h1y
theorem gZ {v : AV} {u : Value} {n : Nat} (hf : Fits v n) (h : ae w F μ v u) : u.cells.size = n ∧ ∀ i, i < n → ∃ y, u.cells[i]? = some y ∧ y.oneCell' = true ∧ ae w F μ (cv v i) y := by
  cases hf with
  | agg l n =>
    cases h with
    | agg us hs hu h1 h => exact ⟨hs, fun i hi => ⟨us i, hu i hi, h1 i hi, h i hi⟩⟩
  | one h1 h2 h3 =>
    have hcv : cv v 0 = v := by cases v <;> first | rfl | exact absurd rfl (h1 _ _)
    have one : u.cells = #[u] → u.oneCell' = true → u.cells.size = 1 ∧ ∀ i, i < 1 → ∃ y, u.cells[i]? = some y ∧ y.oneCell' = true ∧ ae w F μ (cv v i) y := fun e e2 => by
      rw [e]; refine ⟨rfl, fun i hi => ⟨u, ?_, e2, ?_⟩⟩
      · have : i = 0 := by omega
        subst this; rfl
      · have : i = 0 := by omega
        subst this; rw [hcv]; exact h
    cases h with
    | agg => exact absurd rfl (h1 _ _)
    | bM => exact absurd rfl (h2 _ _)
    | uu => exact absurd rfl (h3 _ _ _ _)
    | _ => exact one rfl rfl
end
section
variable {V : Env} {M : Mem} (ok : aT M) {R : ab} (hR : R ≠ .fail)
include ok hR
theorem vG {ty : TypeId} (hsz : 1 ≤ aC V.P ty) {a v : AV} {hp : Hp} {k : Hp → ab} (g : pJ M (aC V.P ty) a v hp k = R) :
    ∃ hp', k hp' = R ∧ ∀ {w : World} {F : Nat → Prop} {μ : Mu} {u x : Value}, ae w F μ a u → ae w F μ v x → au V μ F hp w → cb V μ F hp w (Instr.storeAt ty u x) hp' fun _ _ μ' _ => μ' = μ := by
  rcases dL hR g with ⟨b, o, rfl, g⟩ | ⟨t, o, n, z, rfl, g⟩
  · obtain ⟨fl, z, s, t, hB, hs, hpr, g⟩ := gz ok hR g
    obtain ⟨t', f, hf, ht, hfree, g⟩ := yb ok hR g
    obtain ⟨hp', hset, _, g⟩ := bw ok hR g
    refine ⟨hp', g, fun {w F μ u x} ha hv H => ?_⟩
    obtain ⟨m, hm, rfl⟩ := dC ha
    obtain ⟨i, hi, hi2, hi3⟩ := cD hsz
    obtain ⟨hc1, hc2⟩ := gZ hf hv
    have hs : o + aC V.P ty ≤ s := hs
    have hl : x.cells.toList.length = aC V.P ty := by rw [Array.length_toList, hc1]
    have hfl : (∃ m c T fz, μ b = some m ∧ w.heap[m.aF]? = some (.cells c T fz) ∧ (fl = true → ∀ i, i < s → (cellAt z t i).aS = true)) := by
      have hb := H.aF b
      rw [hB] at hb
      obtain ⟨m, c, T, fz, h1, h2, _, _, h5, _⟩ := hb
      exact ⟨m, c, T, fz, h1, h2, h5⟩
    obtain ⟨_, _, _, _, _, _, hfl⟩ := hfl
    obtain ⟨hH, hE, hrun⟩ := H.write (o := o) (vs := x.cells.toList) hB hpr hm (by omega) (fun i hi => by
        obtain ⟨y, hy, h1, h2⟩ := hc2 i (by omega)
        refine ⟨y, by rw [Array.getElem?_toList]; exact hy, h1, ?_⟩
        rw [ht, if_pos (by omega), show o + i - o = i by omega]; exact h2)
      (fun j hj hne => by rw [ht, if_neg (by rw [← hl]; exact hne)]) (fun e i hi => by
        rw [aG] at e
        rw [ht]
        by_cases e2 : o ≤ i ∧ i < o + aC V.P ty
        · rw [if_pos e2]
          rcases hfree e.2 (i - o) (by omega) with h | ⟨l, n, rfl, h⟩
          · exact bJ h
          · show (nth l (i - o)).aS = true
            rw [mA h]; rfl
        · rw [if_neg e2]; exact hfl e.1 i hi) hset
    refine ⟨μ, F, _, (), ?_, rfl, hH, hE⟩
    rw [Instr.storeAt, Sem.run_bind, jC]
    show (storeVar ty ⟨m.aF, m.base + o, none⟩ x).run V.P w = _
    have hsz' : x.cells.size = i.size := by rw [hc1, hi3]
    unfold storeVar
    simp [sizeOf, typeInfo, hi2, hsz', hrun]
  · exact aa hR g
end
theorem gr {z e q p : Nat} (hz : 0 < z) {r u t : Row} (h : ∀ j, r.at j = if e ≤ j ∧ j < e + q then u.at (p + (j - e)) else t.at j) :
    (∀ i, i < q * z → cellAt z r (e * z + i) = cellAt z u (p * z + i)) ∧ ∀ j, ¬ (e * z ≤ j ∧ j < e * z + q * z) → cellAt z r j = cellAt z t j := by
  refine ⟨fun i hi => yn hz (n := q) (fun j hj => ?_) hi, fun j hj => kH hz ?_⟩
  · rw [h, if_pos (by omega), show e + j - e = j by omega]
  · rw [h, if_neg]
    rintro ⟨h1, h2⟩
    rw [Nat.le_div_iff_mul_le hz] at h1
    rw [Nat.div_lt_iff_lt_mul hz, Nat.add_mul] at h2
    exact hj ⟨h1, h2⟩
theorem yo {z e q : Nat} (hz : 0 < z) {r t : Row} {v : AV} (h : ∀ j, r.at j = if e ≤ j ∧ j < e + q then v else t.at j) :
    (∀ i, i < q * z → cellAt z r (e * z + i) = if z = 1 then v else elc v (i % z)) ∧ ∀ j, ¬ (e * z ≤ j ∧ j < e * z + q * z) → cellAt z r j = cellAt z t j := by
  refine ⟨fun i hi => ?_, fun j hj => kH hz ?_⟩
  · have hd : i / z < q := (Nat.div_lt_iff_lt_mul hz).2 hi
    by_cases h1 : z = 1
    · subst h1; rw [cellAt, if_pos rfl, if_pos rfl, h, if_pos (by rw [Nat.div_one] at hd; rw [Nat.mul_one]; omega)]
    · rw [cellAt, if_neg h1, if_neg h1, Nat.mul_comm e z, Nat.mul_add_div hz, Nat.mul_add_mod, h, if_pos (by generalize i / z = d at hd; omega)]
  · rw [h, if_neg]
    rintro ⟨h1, h2⟩
    rw [Nat.le_div_iff_mul_le hz] at h1
    rw [Nat.div_lt_iff_lt_mul hz, Nat.add_mul] at h2
    exact hj ⟨h1, h2⟩
theorem ofRow {V : Env} {μ : Mu} {F : Nat → Prop} {hp : Hp} {w : World} (H : au V μ F hp w) {b : Nat} {rw' fl : Bool} {z s : Nat} {t : Row} (hB : hp.at b = .row rw' fl z s t) : (∃ m, μ b = some m) ∧ (fl = true → ∀ i, i < s → (cellAt z t i).aS = true) := by
  have hb := H.aF b
  rw [hB] at hb
  obtain ⟨m, c, T, fz, h1, h2, _, _, h5, _⟩ := hb
  exact ⟨⟨m, h1⟩, h5⟩
theorem cb.stay {V : Env} {μ : Mu} {F : Nat → Prop} {hp : Hp} {w : World} {α : Type} {s : Sem α} {x : α} {Q : World → (Nat → Prop) → Mu → α → Prop} (H : au V μ F hp w) (hr : s.run V.P w = .ok x w) (hq : Q w F μ x) : cb V μ F hp w s hp Q :=
  ⟨μ, F, w, x, hr, hq, H, Ext.refl _ _ _ _⟩
section
variable {V : Env} {M : Mem} (ok : aT M) {R : ab} (hR : R ≠ .fail)
include ok hR
theorem mO {ts : Array TypeId} {dT e ty : TypeId} {i : TypeInfo} (h0 : ts[0]? = some dT) (hu : bj V.P dT = some (.slice e)) (hi : V.P.info? e = some i) {w : World} {base : Option Addr} {n c : Nat} {x : Value} {m : Nat} {news : List Value}
    (hs : Seq V.P i.size x m news w) {w' : World} (hst : ∀ a, base = some a → (storeCells a (news.take (Nat.min m n * i.size))).run V.P w = .ok () w') (hn : base = none → w' = w) :
    (Builtin.copy_ ts ty #[.slice base n c, x]).run V.P w = .ok (goInt (Nat.min m n : Nat)) w' := by
  have _ := ok
  have _ := hR
  have hc := hs.cells w rfl (Nat.min m n) (Nat.min_le_left _ _)
  cases base with
  | none =>
    have hn := hn rfl
    subst hn
    simp [Builtin.copy_, h0, run_underlying (aj hu).1, hs.len, sizeOf, typeInfo, hi, hc]
  | some a => simp [Builtin.copy_, h0, run_underlying (aj hu).1, hs.len, sizeOf, typeInfo, hi, hc, hst a rfl]
theorem yv {ts : Array TypeId} {dT e ty : TypeId} (h0 : ts[0]? = some dT) (hu : bj V.P dT = some (.slice e)) (hz : 1 ≤ aC V.P e) {a b : AV} {hp : Hp} {k : Nat → Hp → ab} (g : a5z M (aC V.P e) a b hp k = R) :
    ∃ n hp', k n hp' = R ∧ ∀ {w : World} {F : Nat → Prop} {μ : Mu} {u x : Value}, ae w F μ a u → ae w F μ b x → au V μ F hp w → cb V μ F hp w (Builtin.copy_ ts ty #[u, x]) hp' fun _ _ μ' r => r = goInt (n : Nat) ∧ μ' = μ := by
  obtain ⟨i, _, hi, hsz⟩ := cD hz
  have hz0 : 0 < i.size := by omega
  rw [← hsz] at g
  obtain ⟨u, p, m, f, g, hseq⟩ := mP (V := V) ok hR hz0 g
  rcases bF hR g with ⟨c, o, n, y, rfl, g⟩ | ⟨t, o, n, y, rfl, g⟩ | ⟨i', t, a', b', c, rfl, g⟩ | ⟨s, n, rfl, g⟩
  · obtain ⟨hy, g2⟩ := ah hR g
    rw [an] at hy; subst hy
    rw [aw, aZ] at g2
    have hq : (if Nat.ble n m = true then n else m) = Nat.min m n := by
      by_cases c : n ≤ m
      · rw [if_pos (by rw [aK]; exact c)]; show n = min m n; omega
      · rw [if_neg (by rw [aK]; exact c)]; show m = min m n; omega
    rw [hq] at g2
    have none : ∀ {w : World} {F : Nat → Prop} {μ : Mu} {v x : Value}, Nat.min m n = 0 → ae w F μ (.ms c o n i.size) v → ae w F μ b x → au V μ F hp w → cb V μ F hp w (Builtin.copy_ ts ty #[v, x]) hp fun _ _ μ' r => r = goInt (0 : Nat) ∧ μ' = μ := by
      intro w F μ v x h0' ha hb H
      obtain ⟨news, hs, _⟩ := hseq hb (H.read _)
      have hrun : ∀ {ad : Addr} {cc : Nat}, v = .slice (some ad) n cc → cb V μ F hp w (Builtin.copy_ ts ty #[v, x]) hp fun _ _ μ' r => r = goInt (0 : Nat) ∧ μ' = μ := fun e => by
        subst e
        refine cb.stay H (mO ok hR h0 hu hi (hs) (w' := w) (fun a _ => ?_) fun e => by cases e) ?_
        · rw [h0', Nat.zero_mul, List.take_zero]; rfl
        · rw [h0']; exact ⟨rfl, rfl⟩
      cases ha with
      | ms => exact hrun rfl
      | pN => exact hrun rfl
    rcases ar hR g2 with ⟨h0', g3⟩ | ⟨h0', g3⟩
    · rw [an] at h0'
      exact ⟨_, _, g3, fun ha hb H => none h0' ha hb H⟩
    · have hq0 : ¬ Nat.min m n = 0 := fun e => by rw [← an] at e; rw [e] at h0'; cases h0'
      obtain ⟨fl, x', s, t, hB, hs, hpr, g4⟩ := gz ok hR g3
      obtain ⟨hx, g5⟩ := ah hR g4
      rw [an] at hx; subst hx
      obtain ⟨ho, g6⟩ := ah hR g5
      rw [an] at ho
      have ho : o % i.size = 0 := ho
      obtain ⟨r, hr, g7⟩ := oQ ok hR _ g6
      obtain ⟨hp', hset, _, g8⟩ := bw ok hR g7
      have hoz : Nat.div o i.size * i.size = o := Nat.div_mul_cancel (Nat.dvd_of_mod_eq_zero ho)
      obtain ⟨hr1, hr2⟩ := gr hz0 hr
      rw [hoz] at hr1 hr2
      have hs : o + Nat.min m n * i.size ≤ s := hs
      refine ⟨_, _, g8, fun {w F μ v x} ha hb H => ?_⟩
      obtain ⟨news, hsq, hnew, hfree⟩ := hseq hb (H.read _)
      have hlt : Nat.min m n * i.size ≤ m * i.size := Nat.mul_le_mul_right _ (Nat.min_le_left _ _)
      have hlen : (news.take (Nat.min m n * i.size)).length = Nat.min m n * i.size := by rw [List.length_take, hsq.size, Nat.min_eq_left hlt]
      cases ha with
      | pN => exact absurd (Nat.min_eq_right (Nat.zero_le m)) hq0
      | ms hm hc hcs =>
        rename_i cc mm
        obtain ⟨hH, hE, hrun⟩ := H.write (o := o) (vs := news.take (Nat.min m n * i.size)) hB hpr hm (by rw [hlen]; exact hs) (fun i hi => by
            rw [hlen] at hi
            obtain ⟨y, hy, hc⟩ := hnew i (by omega)
            refine ⟨y, by rw [List.getElem?_take, if_pos hi]; exact hy, hsq.one y (List.mem_of_getElem? hy), ?_⟩
            rw [hr1 i hi]; exact hc)
          (fun j hj hne => hr2 j (by rw [← hlen]; exact hne)) (fun e j hi => by
            rw [aG] at e
            by_cases e2 : o ≤ j ∧ j < o + Nat.min m n * i.size
            · have := hr1 (j - o) (by omega)
              rw [show o + (j - o) = j by omega] at this
              rw [this]; exact hfree e.2 _ (by omega)
            · rw [hr2 j e2]; exact (ofRow H hB).2 e.1 j hi) hset
        exact ⟨μ, F, _, _, mO ok hR h0 hu hi (hsq) (fun a ea => by cases ea; exact hrun) (fun e => by cases e), ⟨rfl, rfl⟩, hH, hE⟩
  · exact aa hR g
  · obtain ⟨hg, g⟩ := ah hR g
    rw [Bool.or_eq_true, an, an] at hg
    refine ⟨_, _, g, fun {w F μ v x} ha hb H => ?_⟩
    obtain ⟨news, hs, _⟩ := hseq hb (H.read _)
    have hz0 : Nat.min m 0 = 0 := Nat.min_eq_right (Nat.zero_le m)
    have hrun : ∀ {ad : Option Addr}, v = .slice ad 0 0 → cb V μ F hp w (Builtin.copy_ ts ty #[v, x]) hp fun _ _ μ' r => r = goInt (0 : Nat) ∧ μ' = μ := fun e => by
      subst e
      refine cb.stay H (mO ok hR h0 hu hi (hs) (w' := w) (fun a _ => ?_) fun _ => rfl) ?_
      · rw [hz0, Nat.zero_mul, List.take_zero]; rfl
      · rw [hz0]; exact ⟨rfl, rfl⟩
    rcases hg with rfl | rfl <;> cases ha <;> exact hrun rfl
  · exact aa hR g
end
theorem a4N (k : IntKind) {n : Nat} (h : n < lm (kc k)) : n < md (kc k) ∧ (4 ≤ kc k ∨ n < hf (kc k)) := by
  cases k <;> simp only [kc, lm, md, hf] at h ⊢ <;> omega
theorem bh {w : World} {F : Nat → Prop} {μ : Mu} {v : Value} (h : bm (ay v) = true) : ae w F μ (ay v) v ∧ v.oneCell' = true ∧ (ay v).aS = true ∧ (∀ l n, ay v ≠ .agg l n) ∧ (∀ l n, ay v ≠ .bM l n) ∧ (∀ t a b c, ay v ≠ .x 0 t a b c) := by
  cases v with
  | int k n =>
    cases n with
    | ofNat m =>
      have e : ay (.int k (.ofNat m)) = (Bool.rec (motive := fun _ => AV) .uu (.int (kc k) m) (Nat.ble (Nat.succ m) (lm (kc k))) : AV) := rfl
      rw [e] at h ⊢
      by_cases c : m < lm (kc k)
      · rw [cZ (show Nat.succ m ≤ lm (kc k) from c)]
        obtain ⟨h1, h2⟩ := a4N k c
        refine ⟨?_, rfl, rfl, fun _ _ => AV.noConfusion, fun _ _ => AV.noConfusion, fun _ _ _ _ => AV.noConfusion⟩
        have := aN (w := w) (F := F) (μ := μ) h1
        rw [cX _ _ h1 h2, a0Y] at this; exact this
      · rw [jT (show ¬ Nat.succ m ≤ lm (kc k) from c)] at h; exact Bool.noConfusion h
    | negSucc m =>
      have e : ay (.int k (.negSucc m)) = (Bool.rec (motive := fun _ => AV) .uu (.int (kc k) (Nat.sub (md (kc k)) (Nat.succ m))) (Nat.ble (Nat.succ m) (hf (kc k))) : AV) := rfl
      rw [e] at h ⊢
      by_cases c : Nat.succ m ≤ hf (kc k)
      · rw [cZ c]
        refine ⟨?_, rfl, rfl, fun _ _ => AV.noConfusion, fun _ _ => AV.noConfusion, fun _ _ _ _ => AV.noConfusion⟩
        have hlt := hf_lt (kc k)
        have h2 : 2 * hf (kc k) ≤ md (kc k) := by cases k <;> simp only [kc, md, hf] <;> omega
        have h1 : md (kc k) - (m + 1) < md (kc k) := by omega
        have := aN (w := w) (F := F) (μ := μ) h1
        rw [jP _ _ h1, a0Y, if_pos ⟨by omega, by omega⟩] at this
        have e2 : ((md (kc k) - (m + 1) : Nat) : Int) - md (kc k) = Int.negSucc m := by omega
        rw [e2] at this; exact this
      · rw [jT c] at h; exact Bool.noConfusion h
  | bool b => exact ⟨.bool b, rfl, rfl, fun _ _ => AV.noConfusion, fun _ _ => AV.noConfusion, fun _ _ _ _ => AV.noConfusion⟩
  | string s => exact ⟨.str, rfl, rfl, fun _ _ => AV.noConfusion, fun _ _ => AV.noConfusion, fun _ _ _ _ => AV.noConfusion⟩
  | pointer a =>
    cases a with
    | none => exact ⟨.mz, rfl, rfl, fun _ _ => AV.noConfusion, fun _ _ => AV.noConfusion, fun _ _ _ _ e => by simp [ay] at e⟩
    | some a => exact Bool.noConfusion h
  | slice a n c =>
    cases a with
    | none =>
      have e : ay (.slice none n c) = (Bool.rec (motive := fun _ => AV) .uu (.x 8 .lf 0 0 0) (aW (Nat.beq n 0) (Nat.beq c 0)) : AV) := rfl
      rw [e] at h ⊢
      cases hb : aW (Nat.beq n 0) (Nat.beq c 0) with
      | false => rw [hb] at h; exact Bool.noConfusion h
      | true =>
        rw [aG, an, an] at hb
        obtain ⟨rfl, rfl⟩ := hb
        exact ⟨.ju, rfl, rfl, fun _ _ => AV.noConfusion, fun _ _ => AV.noConfusion, fun _ _ _ _ e => by simp at e⟩
    | some a => exact Bool.noConfusion h
  | map m =>
    cases m with
    | none => exact ⟨.my, rfl, rfl, fun _ _ => AV.noConfusion, fun _ _ => AV.noConfusion, fun _ _ _ _ e => by simp [ay] at e⟩
    | some m => exact Bool.noConfusion h
  | nilFunc => exact ⟨.mw, rfl, rfl, fun _ _ => AV.noConfusion, fun _ _ => AV.noConfusion, fun _ _ _ _ e => by simp [ay] at e⟩
  | nilIface => exact ⟨.la, rfl, rfl, fun _ _ => AV.noConfusion, fun _ _ => AV.noConfusion, fun _ _ _ _ e => by simp [ay] at e⟩
  | _ => exact Bool.noConfusion h
theorem dR (v : Value) : (ay v).aS = true := by
  by_cases h : bm (ay v) = true
  · exact (bh (w := default) (F := fun _ => False) (μ := bz) h).2.2.1
  · cases hc : ay v with
    | x g t a b c =>
      rw [hc] at h
      cases g with
      | zero => rfl
      | succ g => exact absurd rfl h
    | _ => rw [hc] at h; exact absurd rfl h
theorem iN : ∀ (l : List Value) (i : Nat), nth (ke l) i = (l[i]?.map ay).getD .uu
  | [], i => by cases i <;> rfl
  | v :: l, 0 => rfl
  | v :: l, i + 1 => iN l i
theorem dA : ∀ (l : List Value), allKnown l = true → ∀ (i : Nat) (v : Value), l[i]? = some v → bm (ay v) = true
  | [], _, i, v, h => by cases h
  | a :: l, h, i, v, hi => by
    have h' : aW (bm (ay a)) (allKnown l) = true := h
    rw [aG] at h'
    cases i with
    | zero => cases hi; exact h'.1
    | succ i => exact dA l h'.2 i v hi
theorem db (cs : Array Value) : bT (.agg cs) = if allKnown cs.toList = true then .agg (ke cs.toList) cs.size else .uu := aZ _ _ _
theorem fq {v : Value} (h : ∀ cs, v ≠ .agg cs) : bT v = ay v := by
  cases v <;> first | rfl | exact absurd rfl (h _)
theorem eE {w : World} {F : Nat → Prop} {μ : Mu} (v : Value) : ae w F μ (bT v) v := by
  by_cases hk : bm (bT v) = true
  · by_cases hv : ∃ cs, v = .agg cs
    · obtain ⟨cs, rfl⟩ := hv
      rw [db] at hk ⊢
      by_cases ha : allKnown cs.toList = true
      · rw [if_pos ha]
        have hget : ∀ i, i < cs.size → ∃ u, cs[i]? = some u ∧ cs.toList[i]? = some u := fun i hi => ⟨cs[i], Array.getElem?_eq_getElem hi, by rw [Array.getElem?_toList]; exact Array.getElem?_eq_getElem hi⟩
        obtain ⟨us, hus⟩ := eD hget
        refine .agg us rfl (fun i hi => (hus i hi).1) (fun i hi => ?_) fun i hi => ?_
        · exact (bh (w := w) (F := F) (μ := μ) (dA _ ha i _ (hus i hi).2)).2.1
        · rw [iN, (hus i hi).2]
          exact (bh (dA _ ha i _ (hus i hi).2)).1
      · rw [if_neg ha] at hk; exact Bool.noConfusion hk
    · rw [fq fun cs e => hv ⟨cs, e⟩] at hk ⊢
      exact (bh hk).1
  · have : ∃ t a b c, bT v = .x 0 t a b c := by
      cases hc : bT v with
      | x g t a b c =>
        rw [hc] at hk
        cases g with
        | zero => exact ⟨t, a, b, c, rfl⟩
        | succ g => exact absurd rfl hk
      | _ => rw [hc] at hk; exact absurd rfl hk
    obtain ⟨t, a, b, c, e⟩ := this
    rw [e]; exact .uu v
section
variable {P : Program}
theorem kY {t : TypeId} {i : TypeInfo} (h : bC P t = some i) {v : Value} (hz : i.zero = some v) : aU P t = bT v := by
  unfold aU
  rw [h]; show (match i.zero with | some v => bT v | none => _) = _
  rw [hz]
theorem j1 {t : TypeId} (h : bm (aU P t) = true) : ∃ i v, bC P t = some i ∧ P.info? t = some i ∧ i.zero = some v ∧ aU P t = bT v := by
  cases hi : bC P t with
  | none => unfold aU at h; rw [hi] at h; exact Bool.noConfusion h
  | some i =>
    cases hz : i.zero with
    | none => unfold aU at h; rw [hi] at h; have h' : (match i.zero with | some v => bm (bT v) | none => bm .uu) = true := by
                rw [hz]; simp only [Option.bind_some, hz] at h; exact h
              rw [hz] at h'; exact Bool.noConfusion h'
    | some v => exact ⟨i, v, rfl, bl hi, hz, kY hi hz⟩
theorem vO {t : TypeId} {v : AV} {a : Row} (h : aU P t = .agg (.nd v a .lf) 1) : bE P t = v := by unfold bE; rw [h]; rfl
theorem vN {t : TypeId} {l : Row} {n : Nat} (h : aU P t = .agg l n) (hn : ¬ n = 1) : bE P t = .agg l n := by
  unfold bE; rw [h]
  split
  · rename_i heq; injection heq with _ e2; exact absurd e2 hn
  · rfl
noncomputable def zc (P : Program) (t : TypeId) (z j : Nat) : AV := if z = 1 then bE P t else elc (bE P t) j
theorem bQ {t : TypeId} {z : Nat} (h : bq P t z = true) : ∃ i v, bC P t = some i ∧ P.info? t = some i ∧ i.zero = some v ∧ v.cells.size = z ∧
    ∀ j, j < z → ∃ y, v.cells[j]? = some y ∧ y.oneCell' = true ∧ (∀ w F μ, ae w F μ (zc P t z j) y) ∧ (zc P t z j).aS = true := by
  have hk : bm (aU P t) = true := by
    unfold bq at h
    cases hc : aU P t with
    | x g a b c d =>
      rw [hc] at h
      cases g with
      | zero => exact Bool.noConfusion h
      | succ g => rfl
    | _ => rfl
  obtain ⟨i, v, h1, h2, h3, h4⟩ := j1 hk
  refine ⟨i, v, h1, h2, h3, ?_⟩
  by_cases hv : ∃ cs, v = .agg cs
  · obtain ⟨cs, rfl⟩ := hv
    rw [h4, db] at hk
    have ha : allKnown cs.toList = true := by
      cases ha : allKnown cs.toList with
      | true => rfl
      | false => rw [ha] at hk; exact Bool.noConfusion hk
    have hz : aU P t = .agg (ke cs.toList) cs.size := by rw [h4, db, if_pos ha]
    have hs : cs.size = z := by unfold bq at h; rw [hz] at h; rw [← an]; exact h
    refine ⟨hs, fun j hj => ?_⟩
    obtain ⟨y, hg⟩ : ∃ y, cs[j]? = some y := ⟨cs[j], Array.getElem?_eq_getElem (by omega)⟩
    have hkj : bm (ay y) = true := dA _ ha j _ (by rw [Array.getElem?_toList]; exact hg)
    have hc : zc P t z j = ay y := by
      have hn : nth (ke cs.toList) j = ay y := by rw [iN, Array.getElem?_toList, hg]; rfl
      unfold zc
      by_cases e : z = 1
      · rw [if_pos e]
        have hj0 : j = 0 := by omega
        subst hj0
        have hl : (ke cs.toList) = .nd (ay y) .lf .lf := by
          have : cs.toList.length = 1 := by rw [Array.length_toList]; omega
          match hh : cs.toList, this with
          | [a], _ =>
            have : y = a := by
              have h5 : cs.toList[0]? = some y := by rw [Array.getElem?_toList]; exact hg
              rw [hh] at h5; exact (Option.some.inj h5).symm
            rw [this]; rfl
        rw [hl, hs, e] at hz
        exact vO hz
      · rw [if_neg e]
        rw [hs] at hz
        rw [vN hz e]; exact hn
    rw [hc]
    exact ⟨_, hg, (bh (w := default) (F := fun _ => False) (μ := bz) hkj).2.1, fun w F μ => (bh hkj).1, dR _⟩
  · have hcell := fq fun cs e => hv ⟨cs, e⟩
    have hz : aU P t = ay v := h4.trans hcell
    rw [hz] at hk
    obtain ⟨q1, q2, q3, q4, q5, q6⟩ := bh (w := default) (F := fun _ => False) (μ := bz) hk
    have hcs : v.cells = #[v] := by cases v <;> first | rfl | exact absurd ⟨_, rfl⟩ hv
    have hz1 : z = 1 := by
      unfold bq at h
      rw [hz] at h
      cases hc : ay v with
      | agg l n => exact absurd hc (q4 l n)
      | x g a b c d =>
        rw [hc] at h
        cases g with
        | zero => exact Bool.noConfusion h
        | succ g => rw [← an]; exact h
      | _ => rw [hc] at h; rw [← an]; exact h
    subst hz1
    refine ⟨by rw [hcs]; rfl, fun j hj => ?_⟩
    have hj0 : j = 0 := by omega
    subst hj0
    have hc : zc P t 1 0 = ay v := by
      unfold zc
      rw [if_pos rfl]
      unfold bE
      rw [hz]
      split
      · rename_i heq; exact absurd heq (q4 _ _)
      · rfl
    rw [hc]
    exact ⟨v, by rw [hcs]; rfl, q2, fun w F μ => (bh hk).1, dR _⟩
end
theorem Seq.src {P : Program} {z : Nat} {x : Value} {m : Nat} {news : List Value} {w : World} {tx : TypeId} (hk : (∃ e', P.underlying tx = some (.slice e')) ∨ P.underlying tx = some .string) (h : Seq P z x m news w) : Go.Src P z tx x m news w := by
  have e : news.take (m * z) = news := List.take_of_length_le (by rw [h.size]; exact Nat.le_refl _)
  exact ⟨hk, h.len, by have := h.cells w rfl m (Nat.le_refl _); rwa [e] at this, by have := h.cells w.drew rfl m (Nat.le_refl _); rwa [e] at this, h.size, h.one⟩
theorem cE (z : Array Value) (n : Nat) : (Builtin.zeroCells z n).size = n * z.size := by simp [Builtin.zeroCells]
theorem yI {C : Cx} {t : TypeId} (h : a0W C t = true) : (∃ e', C.P.underlying t = some (.slice e')) ∨ C.P.underlying t = some .string := by
  unfold a0W at h
  cases hu : bj C.P t with
  | none => rw [hu] at h; exact Bool.noConfusion h
  | some d =>
    rw [hu] at h
    cases d <;> first | exact Bool.noConfusion h | exact .inl ⟨_, (aj hu).1⟩ | exact .inr (aj hu).1
section
variable {V : Env} {μ : Mu} {F : Nat → Prop} {hp hp' : Hp} {w : World}
theorem au.row (H : au V μ F hp w) {id : Nat} (hid : μ id = none) {z sz : Nat} {fl : Bool} {r : Row} {w' : World} {c : Array Value} {T : TypeId} {fz : Nat × Nat} (hw : w'.heap = w.heap.push (.cells c T fz)) (s : br hp id (.row true fl z sz r) hp') (hn : id < hp'.nx)
    (hfz : fz.1 = fz.2 ∨ c.size ≤ fz.1) (hc : ∀ i, i < sz → ∃ y, c[i]? = some y ∧ y.oneCell' = true ∧ ae w F μ (cellAt z r i) y) (hfl : fl = true → ∀ i, i < sz → (cellAt z r i).aS = true) (hio : bA w w' := by exact ⟨rfl, rfl⟩) :
    au V (jK μ id ⟨w.heap.size, 0, c.size⟩) F hp' w' ∧ Ext μ F hp w (jK μ id ⟨w.heap.size, 0, c.size⟩) F hp' w' := by
  have hold : ∀ B, B < w.heap.size → w'.heap[B]? = w.heap[B]? := fun B hB => by rw [hw, Array.getElem?_push, if_neg (by omega)]
  refine H.new hid hw s hn rfl ⟨_, c, T, fz, aD _ _ _, ?_, rfl, fun i hi => ?_, hfl, fun _ => ⟨hfz, fun hF => absurd (H.fN _ hF) (Nat.lt_irrefl _)⟩, fun e => Bool.noConfusion e⟩ hio
  · rw [hw]; simp
  · obtain ⟨y, h1, h2, h3⟩ := hc i hi
    exact ⟨y, by rw [Nat.zero_add]; exact h1, h2, h3.mono (fun B hB => hold B (H.fN B hB)) (fun _ h => h) (ck _ hid)⟩
theorem vj (need old : Nat) (h : old < need) (hn : need ≤ 1073741824) : Builtin.nextslicecap need old ≤ 4294967296 := by
  have g : ∀ r c, c ≤ 1073741824 * 2 → (∀ c', c' < need → c' + (c' + 768) / 4 ≤ 1073741824 * 2) → Builtin.growBy need r c ≤ 1073741824 * 2 := by
    intro r
    induction r with
    | zero => intro c hc _; exact hc
    | succ r ih =>
      intro c hc hs
      unfold Builtin.growBy
      split
      · exact hc
      · exact ih _ (hs c (by omega)) hs
  unfold Builtin.nextslicecap
  split
  · omega
  · split
    · omega
    · exact Nat.le_trans (g 4 old (by omega) fun c' hc' => by omega) (by omega)
theorem kG (H : au V μ F hp w) {id : Nat} (hid : μ id = none) {t tx ty e : TypeId} (ht : bj V.P t = some (.slice e)) (hk : (∃ e', V.P.underlying tx = some (.slice e')) ∨ V.P.underlying tx = some .string)
    {z : Nat} (hz : bq V.P e z = true) (hsz : aC V.P e = z) (hby : bytesOf V.P e ≤ 65536) {base : Option Addr} {n cap : Nat} {olds : List Value} (hold : (Builtin.firstCells z n (.slice base n cap)).run V.P w.drew = .ok olds.toArray w.drew) (holdl : olds.length = n * z)
    {x : Value} {m : Nat} {news : List Value} (hs : Seq V.P z x m news w) (hg : cap < n + m) (hq : n + m ≤ 1073741824) {fl : Bool} {r : Row} (s : br hp id (.row true fl z ((n + m) * z) r) hp') (hn : id < hp'.nx)
    (hc : ∀ i, i < (n + m) * z → ∃ y, (olds ++ news)[i]? = some y ∧ y.oneCell' = true ∧ ae w F μ (cellAt z r i) y) (hfl : fl = true → ∀ i, i < (n + m) * z → (cellAt z r i).aS = true) :
    cb V μ F hp w (Builtin.append_ #[t, tx] ty #[.slice base n cap, x]) hp' fun w F μ' v => ae w F μ' (.ms id 0 (n + m) z) v ∧ cI id μ μ' := by
  obtain ⟨i, zv, h1, h2, h3, h4, _⟩ := bQ hz
  have hi : i.size = z := by rw [← hsz, ba h1]
  have hb : i.bytes ≤ 65536 := by unfold bytesOf at hby; rw [h1] at hby; exact hby
  have hfit : Builtin.nextslicecap (n + m) cap * i.bytes ≤ 281474976710656 := by
    have := Nat.mul_le_mul (vj (n + m) cap hg hq) hb
    omega
  have hrun := run_append_grow_src w t tx ty e i zv (aj ht).1 h2 h3 base n cap olds (by rw [hi]; exact hold) x m news (by rw [hi]; exact hs.src hk) hg (by omega) hfit
  have hge := grownCap_ge w (n + m) cap e
  have hlen : (olds ++ news).length = (n + m) * z := by rw [List.length_append, holdl, hs.size, Nat.add_mul]
  obtain ⟨hH, hE⟩ := H.row hid (w' := w.drew.alloc (.cells ((olds ++ news).toArray ++ Builtin.zeroCells zv.cells (grownCap w (n + m) cap e - (n + m))) e)) (fl := fl) (z := z) rfl s hn (.inl rfl) (fun i hi => by
      obtain ⟨y, q1, q2, q3⟩ := hc i hi
      refine ⟨y, ?_, q2, q3⟩
      rw [Array.getElem?_append, if_pos (by rw [List.size_toArray, hlen]; exact hi), List.getElem?_toArray]; exact q1) hfl
  refine ⟨_, _, _, _, hrun, ?_, hH, hE⟩
  have := ae.ms (w := w.drew.alloc (.cells ((olds ++ news).toArray ++ Builtin.zeroCells zv.cells (grownCap w (n + m) cap e - (n + m))) e)) (F := F) (μ := jK μ id ⟨w.heap.size, 0, ((olds ++ news).toArray ++ Builtin.zeroCells zv.cells (grownCap w (n + m) cap e - (n + m))).size⟩) (b := id) (o := 0) (z := z) (aD _ _ _) hge (by
    show 0 + 0 + grownCap w (n + m) cap e * z ≤ ((olds ++ news).toArray ++ Builtin.zeroCells zv.cells (grownCap w (n + m) cap e - (n + m))).size
    rw [Array.size_append, List.size_toArray, hlen, cE, h4, ← Nat.add_mul]
    have : n + m + (grownCap w (n + m) cap e - (n + m)) = grownCap w (n + m) cap e := by omega
    rw [this]; omega)
  exact ⟨this, cI.jK _ _ _⟩
theorem qA (H : au V μ F hp w) {id c : Nat} (hid : μ id = none) {t tx ty e : TypeId} (ht : bj V.P t = some (.slice e)) (hk : (∃ e', V.P.underlying tx = some (.slice e')) ∨ V.P.underlying tx = some .string)
    {z : Nat} (hz : bq V.P e z = true) (hsz : aC V.P e = z) {fl0 : Bool} {sz : Nat} {t0 : Row} (hB : hp.at c = .row true fl0 z sz t0) (hpr : c ∉ hp.pr) {mp : Mp} (hm : μ c = some mp) {o n cap : Nat} (ho : o + n * z ≤ sz) (hcs : mp.base + o + cap * z ≤ mp.size)
    {x : Value} {m : Nat} {news : List Value} (hs : Seq V.P z x m news w) (hroom : n + m ≤ cap) {fl : Bool} {r : Row} {h1 : Hp} (s1 : br hp c .dead h1) (s : br h1 id (.row true fl z ((n + m) * z) r) hp') (hn : id < hp'.nx)
    (hold : ∀ i, i < n * z → cellAt z r i = cellAt z t0 (o + i)) (hnew : ∀ i, i < m * z → ∃ y, news[i]? = some y ∧ ae w F μ (cellAt z r (n * z + i)) y) (hfl : fl = true → ∀ i, i < (n + m) * z → (cellAt z r i).aS = true) :
    cb V μ F hp w (Builtin.append_ #[t, tx] ty #[.slice (some ⟨mp.aF, mp.base + o, none⟩) n cap, x]) hp' fun w F μ' v => ae w F μ' (.ms id 0 (n + m) z) v ∧ cI id μ μ' := by
  obtain ⟨i, zv, h1', h2, h3, h4, _⟩ := bQ hz
  have hi : i.size = z := by rw [← hsz, ba h1']
  have hb := H.aF c
  rw [hB] at hb
  obtain ⟨m', ca, T, fz, q1, q2, q3, q4, q5, q6, _⟩ := hb
  rw [hm] at q1; cases q1
  obtain ⟨q6a, q6b⟩ := q6 rfl
  have hmz : (n + m) * z = n * z + m * z := Nat.add_mul _ _ _
  have hle : (n + m) * z ≤ cap * z := Nat.mul_le_mul_right z hroom
  have hlen : news.length = m * z := hs.size
  obtain ⟨c', h7, h8, h9⟩ := gP news (mp.base + o + n * z) w ca T fz q2
  have hrun := run_append_room_src w t tx ty e i (aj ht).1 h2 mp.aF (mp.base + o) n cap x m news (by rw [hi]; exact hs.src hk) hroom (fun j hj => by
      rw [hi, cell_of q2, Array.getElem?_eq_getElem (by omega)]; rfl) (fun j hj => by
      rw [hi]
      simp only [World.frozen?, q2, Bool.and_eq_false_iff, decide_eq_false_iff_not]
      omega)
  rw [hi] at hrun
  have hne : id ≠ c := fun e => by rw [e, hm] at hid; cases hid
  have hwr : (hp.at c).wr := by rw [hB]; exact rfl
  have hF : ∀ X, F X → (w.setCells mp.aF (mp.base + o + n * z) news).heap[X]? = w.heap[X]? := fun X hX => dm (B := mp.aF) (X := X) (fun e => q6b (by rw [← e]; exact hX)) _ _ _
  obtain ⟨hH, hE⟩ := H.move (m' := ⟨mp.aF, mp.base + o, mp.size⟩) hwr hpr hm hid s1 s hn hne (eO news (mp.base + o + n * z) w) (fun X hX => dm hX news _ w) rfl (by
    refine ⟨_, c', T, fz, aD _ _ _, h7, h8.trans q3, fun j hj => ?_, hfl, fun _ => ⟨by rw [h8]; exact q6a, q6b⟩, fun e => Bool.noConfusion e⟩
    show ∃ u, c'[mp.base + o + j]? = some u ∧ _
    rw [h9]
    by_cases e : j < n * z
    · obtain ⟨u, hu, hu1, hu2⟩ := q4 (o + j) (by omega)
      rw [if_neg (by omega)]
      refine ⟨u, by rw [Nat.add_assoc]; exact hu, hu1, ?_⟩
      rw [hold j e]; exact hu2.mono hF (fun _ h => h) (ck _ hid)
    · obtain ⟨y, hy, hc⟩ := hnew (j - n * z) (by omega)
      rw [if_pos ⟨by omega, by omega, by omega⟩, show mp.base + o + j - (mp.base + o + n * z) = j - n * z by omega]
      refine ⟨y, hy, hs.one y (List.mem_of_getElem? hy), ?_⟩
      rw [show n * z + (j - n * z) = j by omega] at hc
      exact hc.mono hF (fun _ h => h) (ck _ hid)) (hio := gQ _ _ _)
  refine ⟨_, _, _, _, hrun, ?_, hH, hE⟩
  exact ⟨ae.ms (μ := jK μ id ⟨mp.aF, mp.base + o, mp.size⟩) (b := id) (o := 0) (z := z) (aD _ _ _) hroom (by show mp.base + o + 0 + cap * z ≤ mp.size; omega), cI.jK _ _ _⟩
theorem cb.after {h1 : Hp} {α : Type} {s : Sem α} {Q : World → (Nat → Prop) → Mu → α → Prop} (E : Ext μ F hp w μ F h1 w) (h : cb V μ F h1 w s hp' Q) : cb V μ F hp w s hp' Q := by
  obtain ⟨μ', F', w', x, h1, h2, h3, h4⟩ := h
  exact ⟨μ', F', w', x, h1, h2, h3, E.trans h4⟩
end
theorem lU {P : Program} (w : World) (z c : Nat) (a : Option Addr) : (Builtin.firstCells z 0 (.slice a 0 c)).run P w = .ok ([] : List Value).toArray w := by
  cases a with
  | none => exact run_firstCells_none w z 0 0 c
  | some a => exact run_firstCells_some w z 0 a 0 c [] (by simp) (fun _ _ h => by cases h)
section
variable {V : Env} {M : Mem} (ok : aT M) {R : ab} (hR : R ≠ .fail)
include ok hR
theorem tY {z : Nat} (hz : 0 < z) {n m p : Nat} {u r t : Row} (h : ∀ j, r.at j = if n ≤ j ∧ j < n + m then u.at (p + (j - n)) else t.at j) :
    (∀ i, i < m * z → cellAt z r (n * z + i) = cellAt z u (p * z + i)) ∧ ∀ i, i < n * z → cellAt z r i = cellAt z t i := have _ := ok; have _ := hR; 
  ⟨(gr hz h).1, fun i hi => (gr hz h).2 i (by omega)⟩
theorem qy {N : NK} {hp : Hp} {id : Nat} (hN : bO N hp id) {t tx ty e : TypeId} (ht : bj V.P t = some (.slice e)) (hk : (∃ e', V.P.underlying tx = some (.slice e')) ∨ V.P.underlying tx = some .string)
    {z : Nat} (hzk : bq V.P e z = true) (hz : 0 < z) (hsz : aC V.P e = z) (hby : bytesOf V.P e ≤ 65536) {a b : AV} {k : AV → Hp → ab} (g : wi M N z a b hp k = R) :
    ∃ v hp', k v hp' = R ∧ ∀ {w : World} {F : Nat → Prop} {μ : Mu} {u x : Value}, ae w F μ a u → ae w F μ b x → au V μ F hp w → μ id = none → cb V μ F hp w (Builtin.append_ #[t, tx] ty #[u, x]) hp' fun w F μ' r => ae w F μ' v r ∧ cI id μ μ' := by
  obtain ⟨i, zv, h1', h2, h3, h4, _⟩ := bQ hzk
  have hi : i.size = z := by rw [← hsz, ba h1']
  obtain ⟨u, p, m, f, g, hseq⟩ := mP (V := V) ok hR hz g
  have none : m = 0 → k a hp = R → (∀ {w : World} {F : Nat → Prop} {μ : Mu} {v : Value}, ae w F μ a v → ∃ base n c, v = .slice base n c ∧ n ≤ c) → ∃ v hp', k v hp' = R ∧ ∀ {w : World} {F : Nat → Prop} {μ : Mu} {u x : Value}, ae w F μ a u → ae w F μ b x → au V μ F hp w → μ id = none → cb V μ F hp w (Builtin.append_ #[t, tx] ty #[u, x]) hp' fun w F μ' r => ae w F μ' v r ∧ cI id μ μ' := by
    intro hm g hsl
    refine ⟨a, hp, g, fun {w F μ v x} ha hb H _ => ?_⟩
    obtain ⟨base, n, c, rfl, hle⟩ := hsl ha
    obtain ⟨news, hs, _⟩ := hseq hb (H.read _)
    subst hm
    have hnil : news = [] := List.length_eq_zero_iff.1 (by rw [hs.size, Nat.zero_mul])
    subst hnil
    exact cb.stay H (run_append_nothing w t tx ty e i (aj ht).1 h2 base n c hle x (by rw [hi]; exact hs.src hk)) ⟨ha, cI.refl _ _⟩
  rcases bF hR g with ⟨c, o, n, y, rfl, g⟩ | ⟨tt, o, n, y, rfl, g⟩ | ⟨i', tt, a', b', c, rfl, g⟩ | ⟨s, n, rfl, g⟩
  · obtain ⟨hy, g2⟩ := ah hR g
    rw [an] at hy; subst hy
    rcases ar hR g2 with ⟨hm, g3⟩ | ⟨hm, g3⟩
    · rw [an] at hm
      refine none hm g3 fun {w F μ v} ha => ?_
      cases ha with
      | ms _ hc _ => exact ⟨_, _, _, rfl, hc⟩
      | pN => exact ⟨_, _, _, rfl, Nat.le_refl _⟩
    · obtain ⟨fl, x', s, t0, hB, hs, hpr, g4⟩ := gz ok hR g3
      obtain ⟨hx, g5⟩ := ah hR g4
      rw [an] at hx; subst hx
      obtain ⟨ho, g6⟩ := ah hR g5
      rw [an] at ho
      have ho : o % x' = 0 := ho
      have hs : o + n * x' ≤ s := hs
      have hoz : Nat.div o x' * x' = o := Nat.div_mul_cancel (Nat.dvd_of_mod_eq_zero ho)
      have hm0 : ¬ m = 0 := fun e => by rw [← an] at e; rw [e] at hm; cases hm
      have on : ∀ {t1 : Row}, (∀ i, i < n * x' → cellAt x' t1 i = cellAt x' t0 (o + i)) → lC M N x' c n fl t1 u p m f hp k = R → ∃ v hp', k v hp' = R ∧ ∀ {w : World} {F : Nat → Prop} {μ : Mu} {u x : Value}, ae w F μ (.ms c o n x') u → ae w F μ b x → au V μ F hp w → μ id = Option.none → cb V μ F hp w (Builtin.append_ #[t, tx] ty #[u, x]) hp' fun w F μ' r => ae w F μ' v r ∧ cI id μ μ' := by
        intro t1 ht1 g
        obtain ⟨r, hr, g⟩ := oQ ok hR _ g
        obtain ⟨h1, s1, hnx, g⟩ := bw ok hR g
        rw [aw] at g
        obtain ⟨hq, g⟩ := ah hR g
        rw [aw] at g
        rw [aK] at hq
        obtain ⟨h2', g, s2, hid'⟩ := hN hR hnx s1.rb g
        obtain ⟨hr1, hr2⟩ := tY ok hR hz hr
        have hr3 : ∀ i, i < n * x' → cellAt x' r i = cellAt x' t0 (o + i) := fun i hi => (hr2 i hi).trans (ht1 i hi)
        have hmz : (n + m) * x' = n * x' + m * x' := Nat.add_mul _ _ _
        refine ⟨_, _, g, fun {w F μ v x} ha hb H hid => ?_⟩
        obtain ⟨news, hsq, hnew, hfree⟩ := hseq hb (H.read _)
        have hnews : ∀ i, i < m * x' → ∃ y, news[i]? = some y ∧ ae w F μ (cellAt x' r (n * x' + i)) y := fun i hi => by rw [hr1 i hi]; exact hnew i hi
        have hfl : aW fl f = true → ∀ i, i < (n + m) * x' → (cellAt x' r i).aS = true := fun e i hi => by
          rw [aG] at e
          by_cases e2 : i < n * x'
          · rw [hr3 i e2]; exact (ofRow H hB).2 e.1 _ (by omega)
          · have := hr1 (i - n * x') (by omega)
            rw [show n * x' + (i - n * x') = i by omega] at this
            rw [this]; exact hfree e.2 _ (by omega)
        obtain ⟨hK, hKE⟩ := H.kill s1
        have grow : ∀ {base : Option Addr} {cap : Nat} {us : Nat → Value}, (∀ i, i < n * x' → (us i).oneCell' = true ∧ ae w F μ (cellAt x' t0 (o + i)) (us i)) → (Builtin.firstCells x' n (.slice base n cap)).run V.P w.drew = .ok (nq us (n * x')).toArray w.drew → cap < n + m →
            cb V μ F hp w (Builtin.append_ #[t, tx] ty #[.slice base n cap, x]) h2' fun w F μ' r => ae w F μ' (.ms id 0 (n + m) x') r ∧ cI id μ μ' := fun {base cap us} hus hold hg => by
          refine cb.after hKE (kG hK hid ht hk hzk hsz hby hold (c7 _ _) hsq hg hq s2 hid' (fun i hi => ?_) hfl)
          by_cases e2 : i < n * x'
          · refine ⟨us i, ?_, (hus i e2).1, ?_⟩
            · rw [List.getElem?_append_left (by rw [c7]; exact e2), gO us _ i e2]
            · rw [hr3 i e2]; exact (hus i e2).2
          · obtain ⟨y, hy, hc⟩ := hnews (i - n * x') (by omega)
            rw [show n * x' + (i - n * x') = i by omega] at hc
            refine ⟨y, ?_, hsq.one y (List.mem_of_getElem? hy), hc⟩
            rw [List.getElem?_append_right (by rw [c7]; omega), c7]; exact hy
        cases ha with
        | pN =>
          exact grow (us := fun _ => .bool true) (fun i hi => absurd hi (by omega)) (by rw [Nat.zero_mul]; exact lU _ _ _ _) (by omega)
        | ms hm hc hcs =>
          rename_i cap mp
          by_cases hroom : n + m ≤ cap
          · exact qA H hid ht hk hzk hsz hB hpr hm hs hcs hsq hroom s1 s2 hid' hr3 hnews hfl
          · have hb' := (H.aF c)
            rw [hB] at hb'
            obtain ⟨us, hus⟩ := eD (fun i (hi : i < n * x') => hb'.cells hm (o + i) (by omega))
            refine grow (us := us) (fun i hi => (hus i hi).2) ?_ (by omega)
            exact run_firstCells_some w.drew x' n _ n cap _ (c7 _ _) fun j v hj => by
              obtain ⟨hj1, rfl⟩ := kA hj
              have := (hus j hj1).1
              rw [Addr.add_mid, Nat.add_assoc]; exact (nJ (w' := w.drew) (w := w) rfl _).trans this
      rcases ar hR g6 with ⟨ho0, g7⟩ | ⟨_, g7⟩
      · rw [an] at ho0
        exact on (fun i _ => by rw [ho0, Nat.zero_add]) g7
      · obtain ⟨r, hr, g8⟩ := oQ ok hR _ g7
        refine on (fun i hi => ?_) g8
        have := (gr hz hr).1 i hi
        rw [Nat.zero_mul, Nat.zero_add] at this
        rw [this]
        exact congrArg (fun q => cellAt x' t0 (q + i)) hoz
  · obtain ⟨hm, g⟩ := ah hR g
    rw [an] at hm
    refine none hm g fun {w F μ v} ha => ?_
    cases ha with
    | vs _ _ hc _ _ _ => exact ⟨_, _, _, rfl, hc⟩
    | pP => exact ⟨_, _, _, rfl, Nat.zero_le _⟩
  · obtain ⟨hg, g⟩ := ah hR g
    rw [Bool.or_eq_true, an, an] at hg
    have hsl : ∀ {w : World} {F : Nat → Prop} {μ : Mu} {v : Value}, ae w F μ (.x i' tt a' b' c) v → ∃ base, v = .slice base 0 0 := fun ha => by
      rcases hg with rfl | rfl <;> cases ha <;> exact ⟨_, rfl⟩
    rcases ar hR g with ⟨hm, g⟩ | ⟨hm, g⟩
    · rw [an] at hm
      exact none hm g fun ha => let ⟨b, hb⟩ := hsl ha; ⟨b, 0, 0, hb, Nat.le_refl _⟩
    · have hm0 : ¬ m = 0 := fun e => by rw [← an] at e; rw [e] at hm; cases hm
      obtain ⟨hq, g⟩ := ah hR g
      rw [aK] at hq
      rw [aw] at g
      have on : ∀ {r : Row}, (∀ i, i < m * z → cellAt z r i = cellAt z u (p * z + i)) → N.f hp (.row true f z (Nat.mul m z) r) (fun id hp => k (.ms id 0 m z) hp) = R → ∃ v hp', k v hp' = R ∧ ∀ {w : World} {F : Nat → Prop} {μ : Mu} {u x : Value}, ae w F μ (.x i' tt a' b' c) u → ae w F μ b x → au V μ F hp w → μ id = Option.none → cb V μ F hp w (Builtin.append_ #[t, tx] ty #[u, x]) hp' fun w F μ' r => ae w F μ' v r ∧ cI id μ μ' := by
        intro r hr g
        obtain ⟨h2', g, s2, hid'⟩ := hN hR rfl rfl g
        refine ⟨_, _, g, fun {w F μ v x} ha hb H hid => ?_⟩
        obtain ⟨news, hsq, hnew, hfree⟩ := hseq hb (H.read _)
        obtain ⟨base, rfl⟩ := hsl ha
        have e0 : (0 + m) * z = m * z := by rw [Nat.zero_add]
        have := kG (n := 0) (cap := 0) (olds := []) (fl := f) (r := r) (hp' := h2') (id := id) (ty := ty) H hid ht hk hzk hsz hby (lU _ _ _ base) (by rw [Nat.zero_mul]; rfl) hsq (by omega) (by omega) (by rw [e0]; exact s2) hid' (fun i hi => by
          rw [e0] at hi
          obtain ⟨y, hy, hc⟩ := hnew i hi
          exact ⟨y, by rw [List.nil_append]; exact hy, hsq.one y (List.mem_of_getElem? hy), by rw [hr i hi]; exact hc⟩) (fun e i hi => by rw [e0] at hi; rw [hr i hi]; exact hfree e i hi)
        rw [Nat.zero_add] at this
        exact this
      rcases ar hR g with ⟨hp0, g⟩ | ⟨_, g⟩
      · rw [an] at hp0
        exact on (fun i _ => by rw [hp0, Nat.zero_mul, Nat.zero_add]) g
      · obtain ⟨r, hr, g⟩ := oQ ok hR _ g
        refine on (fun i hi => ?_) g
        have := (gr hz hr).1 i hi
        rw [Nat.zero_mul, Nat.zero_add] at this
        exact this
  · exact aa hR g
end
structure New (V : Env) {α : Type} (Q : World → (Nat → Prop) → Mu → α → Prop) (s : α → Sem Value) (id : Nat) (B : aX) (v : AV) : Prop where
  out : ∀ {w : World} {F : Nat → Prop} {μ : Mu} {u : α} {h h' : Hp}, Q w F μ u → μ id = none → au V μ F h w → br h id B h' → id < h'.nx → cb V μ F h w (s u) h' fun w F μ' r => ae w F μ' v r ∧ cI id μ μ'
section
variable {V : Env} {M : Mem} (ok : aT M) {R : ab} (hR : R ≠ .fail)
theorem js {id : Nat} {z sz : Nat} {fl : Bool} {r : Row} {α : Type} {Q : World → (Nat → Prop) → Mu → α → Prop} {s : α → Sem Value} {v : AV}
    (hfl : fl = true → ∀ i, i < sz → (cellAt z r i).aS = true)
    (H : ∀ {w : World} {F : Nat → Prop} {μ : Mu} {u : α}, Q w F μ u → ∃ x w' c T fz, (s u).run V.P w = .ok x w' ∧ (w'.heap = w.heap.push (.cells c T fz) ∧ bA w w') ∧ (fz.1 = fz.2 ∨ c.size ≤ fz.1) ∧
      (∀ i, i < sz → ∃ y, c[i]? = some y ∧ y.oneCell' = true ∧ ae w F μ (cellAt z r i) y) ∧ ∀ {μ' : Mu}, μ' id = some ⟨w.heap.size, 0, c.size⟩ → ae w' F μ' v x) : New V Q s id (.row true fl z sz r) v := by
  refine ⟨fun {w F μ u h h'} hq hid hH hs hn => ?_⟩
  obtain ⟨x, w', c, T, fz, h1, h2, h3, h4, h5⟩ := H hq
  obtain ⟨hH', hE⟩ := hH.row hid h2.1 hs hn h3 h4 hfl h2.2
  exact ⟨_, _, w', x, h1, ⟨h5 (aD _ _ _), cI.jK _ _ _⟩, hH', hE⟩
theorem vu {P : Program} (t : TypeId) (u : Value) (w : World) : (Instr.box t u).run P w = .ok (.pointer (some ⟨w.heap.size, 0, none⟩)) (w.alloc (.cells u.cells t)) := by
  simp [Instr.box, newVar, newRow]
theorem uf {z : Nat} {l : Row} {n i : Nat} (hi : i < z) (hz : ¬ z = 1) : cellAt z (.nd (.agg l n) .lf .lf) i = nth l i := by
  rw [cellAt, if_neg hz, Nat.div_eq_of_lt hi, Nat.mod_eq_of_lt hi]; rfl
include ok hR
theorem qE {N : NK} {hp : Hp} {id : Nat} (hN : bO N hp id) {t : TypeId} {v : AV} {z sz : Nat} {k : AV → Hp → ab} (g : zU M N v z sz hp k = R) :
    ∃ B hp', k (.ptr id 0) hp' = R ∧ br hp id B hp' ∧ id < hp'.nx ∧ New V (fun w F μ u => ae w F μ v u) (Instr.box t) id B (.ptr id 0) := by
  have fin : ∀ {zz : Nat} {p : Bool} {r : Row}, Fits v sz → (∀ i, i < sz → cellAt zz r i = cv v i) → (p = true → ∀ i, i < sz → (cv v i).aS = true) → N.f hp (.row true p zz sz r) (fun id hp => k (.ptr id 0) hp) = R →
      ∃ B hp', k (.ptr id 0) hp' = R ∧ br hp id B hp' ∧ id < hp'.nx ∧ New V (fun w F μ u => ae w F μ v u) (Instr.box t) id B (.ptr id 0) := by
    intro zz p r hf hc hp0 g
    obtain ⟨h', g, hs, hn⟩ := hN hR rfl rfl g
    refine ⟨_, h', g, hs, hn, js (fun e i hi => by rw [hc i hi]; exact hp0 e i hi) fun {w F μ u} hu => ?_⟩
    obtain ⟨hc1, hc2⟩ := gZ hf hu
    refine ⟨_, _, u.cells, t, (0, 0), vu t u w, ⟨rfl, rfl, rfl⟩, .inl rfl, fun i hi => ?_, fun {μ'} hm => ?_⟩
    · obtain ⟨y, h1, h2, h3⟩ := hc2 i hi
      exact ⟨y, h1, h2, by rw [hc i hi]; exact h3⟩
    · exact ae.ptr hm
  rcases ar hR g with ⟨hs, g⟩ | ⟨hs, g⟩
  · rw [an] at hs
    subst hs
    obtain ⟨c, p, hf, hcv, hpl, g2⟩ := jV ok hR (by assumption)
    subst hcv
    refine fin hf (fun i hi => ?_) (fun e i hi => ?_) g2
    · have : i = 0 := by omega
      subst this; rfl
    · have : i = 0 := by omega
      subst this; exact bJ (hpl e)
  · have hs1 : ¬ sz = 1 := fun e => by rw [← an, hs] at e; exact Bool.noConfusion e
    obtain ⟨l, n, rfl, g⟩ := bU hR g
    obtain ⟨hn, g⟩ := ah hR g
    rw [an] at hn
    subst hn
    obtain ⟨p, hpl, g⟩ := dW g
    have hfree : p = true → ∀ i, i < n → (cv (.agg l n) i).aS = true := fun e i hi => by
      show (nth l i).aS = true
      by_cases hl : i < len l
      · exact bJ (hpl e i hl)
      · rw [mA (by omega)]; rfl
    rcases ar hR g with ⟨hz, g⟩ | ⟨hz, g⟩
    · exact fin (.agg l n) (fun i hi => uf hi hs1) hfree g
    · rcases ar hR g with ⟨hz1, g⟩ | ⟨hz1, g⟩
      · obtain ⟨r, hr, g⟩ := mI ok hR _ g
        refine fin (.agg l n) (fun i hi => ?_) hfree g
        rw [hr, if_pos (by omega)]; rfl
      · obtain ⟨h2, g⟩ := ah hR g
        obtain ⟨hd, g⟩ := ah hR g
        rw [aK] at h2
        rw [an] at hd
        have hd : n / z * z = n := hd
        obtain ⟨r, hr, g⟩ := a2e ok hR _ g
        refine fin (.agg l n) (fun i hi => ?_) hfree g
        have hlt : i / z < n / z := (Nat.div_lt_iff_lt_mul (by omega)).2 (by omega)
        obtain ⟨a, ha, hb⟩ := (hr (i / z)).1 ⟨Nat.zero_le _, by rw [Nat.zero_add]; exact hlt⟩
        have hz1 : ¬ z = 1 := by omega
        rw [cellAt, if_neg hz1, ha]
        show nth a (i % z) = nth l i
        rw [hb _ (Nat.mod_lt _ (by omega)), Nat.sub_zero, Nat.div_add_mod' i z]
omit ok hR in
theorem zu {P : Program} {t : TypeId} {i : TypeInfo} {v : Value} (h : P.info? t = some i) (hz : i.zero = some v) (w : World) : (Instr.alloc t true (.tuple #[])).run P w = (Instr.box t v).run P w := by
  simp [Instr.alloc, Instr.box, zeroValue, typeInfo, h, hz]
theorem tX {N : NK} {hp : Hp} {id : Nat} (hN : bO N hp id) {t : TypeId} {z sz : Nat} {k : AV → Hp → ab} (hk : bm (aU V.P t) = true) (g : zU M N (aU V.P t) z sz hp k = R) :
    ∃ B hp', k (.ptr id 0) hp' = R ∧ br hp id B hp' ∧ id < hp'.nx ∧ New V (fun _ _ _ (_ : Unit) => True) (fun _ => Instr.alloc t true (.tuple #[])) id B (.ptr id 0) := by
  obtain ⟨i, v, h1, h2, h3, h4⟩ := j1 hk
  obtain ⟨B, hp', g, hs, hn, H⟩ := qE (V := V) (t := t) ok hR hN g
  refine ⟨B, hp', g, hs, hn, ⟨fun {w F μ u h h'} _ hid hH hs hn => ?_⟩⟩
  have := H.out (w := w) (F := F) (μ := μ) (u := v) (h := h) (h' := h') (by rw [h4]; exact eE v) hid hH hs hn
  unfold cb at *
  rw [zu h2 h3]; exact this
theorem rW {N : NK} {hp : Hp} {id : Nat} (hN : bO N hp id) {t : TypeId} {k : AV → Hp → ab} (g : N.f hp (.map 0 .lf) (fun id hp => k (.x 4 .lf id 0 0) hp) = R) :
    ∃ B hp', k (.x 4 .lf id 0 0) hp' = R ∧ br hp id B hp' ∧ id < hp'.nx ∧ New V (fun _ _ _ (_ : Unit) => True) (fun _ => Instr.makeMap t none) id B (.x 4 .lf id 0 0) := by
  have _ := ok
  obtain ⟨h', g, hs, hn⟩ := hN hR rfl rfl g
  refine ⟨_, h', g, hs, hn, ⟨fun {w F μ u h h'} _ hid hH hs hn => ?_⟩⟩
  obtain ⟨hH', hE⟩ := hH.new (w' := w.alloc (.map #[] 0)) (m := ⟨w.heap.size, 0, 0⟩) hid rfl hs hn rfl ⟨_, #[], 0, aD _ _ _, by show (w.heap.push _)[w.heap.size]? = _; simp, fun hF => absurd (hH.fN _ hF) (Nat.lt_irrefl _), rfl, fun i hi => absurd hi (Nat.not_lt_zero _)⟩
  exact ⟨_, _, _, _, by simp [Instr.makeMap], ⟨ae.map (aD μ id ⟨w.heap.size, 0, 0⟩), cI.jK _ _ _⟩, hH', hE⟩
end
end Go.Proofs.YtdlohaedegmiaaaGreatDoor.Ev
