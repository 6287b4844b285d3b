import Derived.Test.YtdlohaedegmiaaaGreatDoorEvAF
namespace Go.Proofs.YtdlohaedegmiaaaGreatDoor.Ev
noncomputable def sv (d : Nat) (s : Src) (sk : Row) (fr : Fr) : AV := match s with
  | .c v => v
  | .s l => nth sk (Nat.sub (Nat.sub d 1) l)
  | .f i => fr.at i
  | .no => .uu
theorem jq {R : ab} (hR : R ≠ .fail) {d : Nat} {s : Src} {sk : Row} {fr : Fr} {k : AV → ab} (g : (zj d s).get sk fr k = R) : k (sv d s sk fr) = R ∧ s ≠ .no ∧ ∀ l, s = .s l → l < d := by
  cases s with
  | c v => exact ⟨g, by simp, fun l e => by simp at e⟩
  | s l =>
    have g' : ((Bool.rec (motive := fun _ => Rd) ⟨fun _ _ _ => .fail⟩ (vI (Nat.sub (Nat.sub d 1) l)) (Nat.ble (Nat.succ l) d) : Rd)).get sk fr k = R := g
    cases hb : Nat.ble (Nat.succ l) d with
    | false => rw [hb] at g'; exact aa hR g'
    | true =>
      rw [hb] at g'
      refine ⟨(mT hR _ g').2, by simp, fun l' e => ?_⟩
      cases e
      rw [aK] at hb; exact hb
  | f i => exact ⟨qS hR i g, by simp, fun l e => by simp at e⟩
  | no => exact aa hR g
noncomputable def ov (C : Cx) (g : G) (sk : Row) (fr : Fr) (x : Operand) : AV := sv g.d (src C g x) sk fr
theorem aE {R : ab} (hR : R ≠ .fail) {C : Cx} {g : G} {x : Operand} {sk : Row} {fr : Fr} {k : AV → ab} (h : (cH C g x).get sk fr k = R) : k (ov C g sk fr x) = R := (jq hR h).1
section
variable {C : Cx} {g : G} {R : ab} (hR : R ≠ .fail)
theorem aeb (ok : aT C.M) (hR : R ≠ .fail) {o z : Nat → Nat} {sk : Row} {fr : Fr} : ∀ {ps : List (Nat × Operand)} {t : Row} {k : Row → ab}, (uk (partsOf C g ps o z)).f sk fr t k = R →
    ∃ l', k l' = R ∧ ∀ {w : World} {F : Nat → Prop} {μ : Mu} {ρ : Operand → Value} {cs : Array Value} {n : Nat} {place : Nat → Option (Nat × Nat)}, (∀ p ∈ ps, ae w F μ (ov C g sk fr p.2) (ρ p.2)) → pT w F μ t cs n → (∀ p ∈ ps, o p.1 + z p.1 ≤ n) →
      (∀ p ∈ ps, place p.1 = some (o p.1, z p.1)) → ∃ cs', Instr.fill place cs (ps.map fun p => (p.1, ρ p.2)) = some cs' ∧ pT w F μ l' cs' n := by
  intro ps
  induction ps with
  | nil => intro t k h; exact ⟨t, h, fun {w F μ ρ cs n place} _ hl _ _ => ⟨cs, rfl, hl⟩⟩
  | cons p r ih =>
    intro t k h
    have h1 := aE hR (k := fun v => setP (o p.1) (z p.1) t v fun t => (uk (partsOf C g r o z)).f sk fr t k) h
    obtain ⟨l1, h2, hf, hs⟩ := a3c ok hR h1
    obtain ⟨l', h3, H⟩ := ih h2
    refine ⟨l', h3, fun {w F μ ρ cs n place} hρ hl hle hpl => ?_⟩
    obtain ⟨e1, e2, e3⟩ := hl.set hf (hρ p (List.mem_cons_self ..)) hs (hle p (List.mem_cons_self ..))
    obtain ⟨cs', q1, q2⟩ := H (ρ := ρ) (place := place) (fun q hq => hρ q (List.mem_cons_of_mem _ hq)) e3 (fun q hq => hle q (List.mem_cons_of_mem _ hq)) (fun q hq => hpl q (List.mem_cons_of_mem _ hq))
    refine ⟨cs', ?_, q2⟩
    rw [List.map_cons, Instr.fill, hpl p (List.mem_cons_self ..)]
    simp only []
    rw [if_neg]
    · exact q1
    · simp only [Bool.or_eq_true, decide_eq_true_eq]
      rintro (h | h)
      · exact h e1
      · exact e2 h
end
section
variable {P : Program}
theorem zI {t : TypeId} {z : Nat} (h : bq P t z = true) : ∃ i v, bC P t = some i ∧ P.info? t = some i ∧ i.zero = some v ∧ v.cells.size = z ∧ ∀ w F μ, pT w F μ (tK P t) v.cells z := by
  obtain ⟨i, v, h1, h2, h3, h4, h5⟩ := bQ h
  refine ⟨i, v, h1, h2, h3, h4, fun w F μ => ⟨h4, fun j hj => ?_⟩⟩
  have hz := kY h1 h3
  have hrel := eE (w := w) (F := F) (μ := μ) v
  rw [← hz] at hrel
  obtain ⟨y, hy, ho, _⟩ := h5 j hj
  refine ⟨y, hy, ho, ?_⟩
  unfold tK
  cases hc : aU P t with
  | agg l n =>
    rw [hc] at hrel
    cases hrel with
    | agg us hs hu h1' h =>
      have e : n = z := by rw [← hs]; exact h4
      have hy' := hu j (by omega)
      have e2 := Option.some.inj (hy.symm.trans hy')
      rw [e2]; exact h j (by omega)
  | _ =>
    rw [hc] at hrel
    have hz1 : z = 1 := by
      unfold bq at h; rw [hc] at h
      first
        | (rw [← an]; exact h)
        | (rename_i gg _ _ _ _; cases gg with
            | zero => exact Bool.noConfusion h
            | succ gg => rw [← an]; exact h)
    subst hz1
    have hj0 : j = 0 := by omega
    subst hj0
    have hna : ∀ cs, v ≠ .agg cs := fun cs e => by
      rw [e, db, hc] at hz
      split at hz
      · exact AV.noConfusion hz
      · first
          | exact AV.noConfusion hz
          | (injection hz with e1; subst e1; unfold bq at h; rw [hc] at h; exact Bool.noConfusion h)
    have hy2 : v.cells = #[v] := by cases v <;> first | rfl | exact absurd rfl (hna _)
    rw [hy2] at hy
    have e2 := Option.some.inj hy
    rw [← e2]; exact hrel
end
section
variable {P : Program} {R : ab} (hR : R ≠ .fail)
include hR
theorem vD {t : TypeId} (ht : bj P t = some .string) {x : AV} {lo hi : Option AV} {k : AV → ab} (g : vC x lo hi k = R) : ∃ v, k v = R ∧ vR P (Instr.sliceAt t) x lo hi none v := by
  obtain ⟨s, n, e0, g1⟩ := aM hR g
  subst e0
  obtain ⟨l, h, e', m, g3, hl, hh, h1, h2, b1, b2, b3, b4⟩ := cL hR g1
  rw [xQ] at g3
  refine ⟨_, g3, fun {w F μ u a b c} ha q1 q2 q3 => ?_⟩
  obtain ⟨B, rfl, r1, r2⟩ := cy ha
  have hc : c = none := by
    cases c with
    | none => rfl
    | some v => exact q3.elim
  subst hc
  subst r2
  have hrun := cO (P := P) (s := false) q1 q2 q3 b1 b2 b3 b4 hl hh (fun e => by cases e) (Nat.le_refl B.size)
  refine ⟨.string (B.extract l h), ?_, jA ?_ ?_⟩
  · simp [Instr.sliceAt, Instr.slice, run_underlying (aj ht).1, hrun]
  · have e1 : Nat.mod (Nat.div s (Nat.pow 256 l)) (Nat.pow 256 (Nat.sub h l)) = aI B.data.toList / 256 ^ l % 256 ^ (h - l) := by rw [r1]; rfl
    rw [e1, iT, mD, ByteArray.data_extract, Array.toList_extract, List.extract_eq_take_drop]
  · rw [ByteArray.size_extract]
    show h - l = _
    omega
theorem a4U {x : AV} {k : AV → ab} (g : (x.on (fun _ _ => .fail) (fun _ => .fail) (fun _ _ => .fail) (fun _ _ => k x) (fun _ _ _ _ => .fail) (fun _ _ _ _ => .fail) (fun _ _ => .fail) (fun _ _ => .fail) (fun g _ _ _ _ => aq (Nat.beq g 1 || Nat.beq g 3 || Nat.beq g 5 || Nat.beq g 12) (k x))) = R) :
    k x = R ∧ ∀ {w : World} {F : Nat → Prop} {μ : Mu} {u : Value}, ae w F μ x u → (∃ a, u = .pointer (some a)) ∨ (∃ f fs cs, u = .func (.func f) fs cs) ∨ (∃ l, u = .func (.yield l) #[] #[]) ∨ ∃ t v, u = .iface t v := by
  cases x with
  | ptr b o => exact ⟨g, fun ha => .inl (by obtain ⟨m, _, rfl⟩ := dC ha; exact ⟨_, rfl⟩)⟩
  | x i t a b c =>
    obtain ⟨hi, g⟩ := ah hR (show aq (Nat.beq i 1 || Nat.beq i 3 || Nat.beq i 5 || Nat.beq i 12) (k (.x i t a b c)) = R from g)
    rw [Bool.or_eq_true, Bool.or_eq_true, Bool.or_eq_true, an, an, an, an] at hi
    refine ⟨g, fun ha => ?_⟩
    rcases hi with ((rfl | rfl) | rfl) | rfl <;> cases ha
    · exact .inl ⟨_, rfl⟩
    · exact .inr (.inl ⟨_, _, _, rfl⟩)
    · exact .inr (.inr (.inl ⟨_, rfl⟩))
    · exact .inr (.inr (.inr ⟨_, _, rfl⟩))
  | _ => exact aa hR g
end
section
variable {C : Cx} {g : G} {R : ab} (hR : R ≠ .fail)
include hR
theorem oH {sk : Row} {fr : Fr} : ∀ {l : List Operand} {k : Row → ab}, (ak (l.map (cH C g))).f sk fr k = R → ∃ r, k r = R ∧ len r = l.length ∧ ∀ i x, l[i]? = some x → nth r i = ov C g sk fr x := by
  intro l
  induction l with
  | nil => intro k h; exact ⟨.lf, h, rfl, fun i x e => by cases e⟩
  | cons a r ih =>
    intro k h
    have h1 := aE hR (k := fun v => (ak (r.map (cH C g))).f sk fr fun t => k (.nd v .lf t)) h
    obtain ⟨t, h2, h3, h4⟩ := ih h1
    refine ⟨_, h2, congrArg (· + 1) h3, fun i x e => ?_⟩
    cases i with
    | zero => cases e; rfl
    | succ i => exact h4 i x e
omit hR in
theorem a25 {sk : Row} {fr : Fr} {v : Value} {w : World} {F : Nat → Prop} {μ : Mu} : ae w F μ (ov C g sk fr (.const v)) v := eE v
omit hR in
theorem a2T {sk : Row} {fr : Fr} {w : World} {F : Nat → Prop} {μ : Mu} {f : FuncId} {ρ : Operand → Value} {a b : Array Operand} {r : Row} (hl : len r = (a.toList ++ b.toList).length) (hr : ∀ i x, (a.toList ++ b.toList)[i]? = some x → nth r i = ov C g sk fr x)
    (h : ∀ x, x ∈ a.toList ++ b.toList → ae w F μ (ov C g sk fr x) (ρ x)) : ae w F μ (.x 3 r f a.size b.size) (.func (.func f) (a.map ρ) (b.map ρ)) := by
  have ha : a.toList.length = a.size := Array.length_toList
  have hb : b.toList.length = b.size := Array.length_toList
  have hlen : (a.toList ++ b.toList).length = a.size + b.size := by rw [List.length_append, ha, hb]
  have hx : ∀ i, i < a.size + b.size → ∃ u, ∃ x, (a.toList ++ b.toList)[i]? = some x ∧ u = ρ x := fun i hi => by
    have : i < (a.toList ++ b.toList).length := by rw [hlen]; exact hi
    exact ⟨_, _, List.getElem?_eq_getElem this, rfl⟩
  obtain ⟨us, hus⟩ := eD hx
  refine .fn us (by rw [Array.size_map]) (by rw [Array.size_map]) (by rw [hl, hlen]) (fun i hi => ?_) (fun i hi => ?_) fun i hi => ?_
  · obtain ⟨x, h1, h2⟩ := hus i (by omega)
    rw [List.getElem?_append_left (by rw [ha]; exact hi), Array.getElem?_toList] at h1
    rw [Array.getElem?_map, h1, h2]; rfl
  · obtain ⟨x, h1, h2⟩ := hus (a.size + i) (by omega)
    rw [List.getElem?_append_right (by rw [ha]; omega), ha, show a.size + i - a.size = i by omega, Array.getElem?_toList] at h1
    rw [Array.getElem?_map, h1, h2]; rfl
  · obtain ⟨x, h1, h2⟩ := hus i hi
    rw [hr i x h1, h2]
    exact h x (List.mem_of_getElem? h1)
end
def n8 (c : Nat) (v : Value) : Prop := match c with
  | 0 => ∃ b, v = .bool b
  | 1 => ∃ s, v = .string s
  | q + 2 => ∃ n, v = .int (kd q) n
theorem jc (x y : ByteArray) : (x.toList == y.toList) = true ↔ x = y := by
  rw [ByteArray.toList_eq, ByteArray.toList_eq, beq_iff_eq]
  constructor
  · intro h
    obtain ⟨⟨a⟩⟩ := x
    obtain ⟨⟨b⟩⟩ := y
    simp only at h
    rw [h]
  · rintro rfl; rfl
section
variable {R : ab} (hR : R ≠ .fail)
include hR in
theorem iI {c : Nat} {a b : AV} {k : Bool → ab} (g : jW c a b k = R) : ∃ r, k r = R ∧ ∀ {w : World} {F : Nat → Prop} {μ : Mu} {u v : Value}, ae w F μ a u → ae w F μ b v → n8 c u ∧ n8 c v ∧ (r = true ↔ u = v) := by
  match c with
  | 0 =>
    obtain ⟨x, rfl, g2⟩ := dZ hR g
    obtain ⟨y, rfl, g3⟩ := dZ hR g2
    rw [dH] at g3
    refine ⟨_, g3, fun {w F μ u v} ha hb => ?_⟩
    rw [de ha, de hb]
    refine ⟨⟨_, rfl⟩, ⟨_, rfl⟩, ?_⟩
    rw [cR, lj]
    cases x <;> cases y <;> simp
  | 1 =>
    obtain ⟨s, n, t, m, rfl, rfl, g2⟩ := jH hR g
    rw [dH] at g2
    refine ⟨_, g2, fun {w F μ u v} ha hb => ?_⟩
    obtain ⟨x, rfl, rfl, rfl⟩ := cy ha
    obtain ⟨y, rfl, rfl, rfl⟩ := cy hb
    refine ⟨⟨_, rfl⟩, ⟨_, rfl⟩, ?_⟩
    rw [gT, jc]
    simp
  | q + 2 =>
    obtain ⟨x, y, rfl, rfl, g2⟩ := aV hR g
    rw [dH] at g2
    refine ⟨_, g2, fun {w F μ u v} ha hb => ?_⟩
    obtain ⟨h1, rfl⟩ := aY ha
    obtain ⟨h2, rfl⟩ := aY hb
    refine ⟨⟨_, rfl⟩, ⟨_, rfl⟩, ?_⟩
    rw [an, Value.int.injEq, pU q x y h1 h2]
    simp
include hR in
theorem wz : ∀ {l : List Nat} {t u : Row} {k : Bool → ab}, eqs l t u k = R → ∃ r, k r = R ∧ ∀ {w : World} {F : Nat → Prop} {μ : Mu} {us vs : Nat → Value}, (∀ i, i < l.length → ae w F μ (nth t i) (us i) ∧ ae w F μ (nth u i) (vs i)) →
    (∀ i c, l[i]? = some c → n8 c (us i) ∧ n8 c (vs i)) ∧ (r = true ↔ ∀ i, i < l.length → us i = vs i)
  | [], t, u, k, g => ⟨true, g, fun _ => ⟨fun i c h => by simp at h, by simp⟩⟩
  | c :: l, t, u, k, g => by
    cases t with
    | lf => exact aa hR g
    | nd a tl tr =>
      cases u with
      | lf => exact aa hR g
      | nd b ul ur =>
        obtain ⟨r, g, h1⟩ := iI hR g
        obtain ⟨r2, g, h2⟩ := wz g
        refine ⟨_, g, fun {w F μ us vs} h => ?_⟩
        obtain ⟨q1, q2, q3⟩ := h1 (h 0 (Nat.succ_pos _)).1 (h 0 (Nat.succ_pos _)).2
        obtain ⟨p1, p2⟩ := h2 (us := fun i => us (i + 1)) (vs := fun i => vs (i + 1)) fun i hi => h (i + 1) (Nat.succ_lt_succ hi)
        refine ⟨fun i c' hc => ?_, ?_⟩
        · cases i with
          | zero => simp at hc; subst hc; exact ⟨q1, q2⟩
          | succ i => exact p1 i c' (by simpa using hc)
        · rw [aG, q3, p2]
          constructor
          · rintro ⟨e1, e2⟩ i hi
            cases i with
            | zero => exact e1
            | succ i => exact e2 i (Nat.lt_of_succ_lt_succ hi)
          · intro e
            exact ⟨e 0 (Nat.succ_pos _), fun i hi => e (i + 1) (Nat.succ_lt_succ hi)⟩
end
section
variable {P : Program}
theorem oI (a b : List Nat) : nc a b = a ++ b := by
  induction a with
  | nil => rfl
  | cons x a ih => exact congrArg (x :: ·) ih
theorem a03 {n : Nat} {o : Option (List Nat)} {l : List Nat} (h : chkO n o = some l) : o = some l ∧ l.length = n := by
  cases o with
  | none => cases h
  | some a =>
    have h' : (Bool.rec (motive := fun _ => Option (List Nat)) none (some a) (Nat.beq a.length n) : Option (List Nat)) = some l := h
    rw [aZ] at h'
    split at h'
    · rename_i hb; rw [an] at hb; cases h'; exact ⟨rfl, hb⟩
    · cases h'
def fi (l : List Nat) (xs : Array Value) (o : Nat) : Prop := ∀ i c, l[i]? = some c → ∃ v, xs[o + i]? = some v ∧ n8 c v
theorem fi.left {a b : List Nat} {xs : Array Value} {o : Nat} (h : fi (a ++ b) xs o) : fi a xs o := fun i c hc => h i c (by
  obtain ⟨hi, _⟩ := List.getElem?_eq_some_iff.1 hc
  rw [List.getElem?_append_left hi]; exact hc)
theorem fi.right {a b : List Nat} {xs : Array Value} {o : Nat} (h : fi (a ++ b) xs o) : fi b xs (o + a.length) := fun i c hc => by
  obtain ⟨v, h1, h2⟩ := h (a.length + i) c (by rw [List.getElem?_append_right (by omega), Nat.add_sub_cancel_left]; exact hc)
  exact ⟨v, by rw [Nat.add_assoc]; exact h1, h2⟩
def tT (xs ys : Array Value) (o n : Nat) : Prop := ∀ i, i < n → xs[o + i]? = ys[o + i]?
theorem jF {xs ys : Array Value} {o n m : Nat} : tT xs ys o (n + m) ↔ tT xs ys o n ∧ tT xs ys (o + n) m :=
  ⟨fun h => ⟨fun i hi => h i (by omega), fun i hi => by rw [Nat.add_assoc]; exact h (n + i) (by omega)⟩, fun ⟨h1, h2⟩ i hi => by
    by_cases e : i < n
    · exact h1 i e
    · have := h2 (i - n) (by omega)
      rw [show o + n + (i - n) = o + i by omega] at this; exact this⟩
def yd (P : Program) (t : TypeId) (l : List Nat) (D : Nat) : Prop :=
  l.length = aC P t ∧ (∃ d i, bj P t = some d ∧ bC P t = some i) ∧
  (isAgg P t = false → ∃ c, l = [c] ∧ ∀ w v v', n8 c v → n8 c v' → ∃ r, (Op.equalIn D t v v').run P w = .ok r w ∧ (r = true ↔ v = v')) ∧
  (isAgg P t = true → ∀ w xs ys, fi l xs 0 → fi l ys 0 → ∃ r, (Op.equalIn D t (.agg xs) (.agg ys)).run P w = .ok r w ∧ (r = true ↔ tT xs ys 0 l.length))
theorem yd.part {t : TypeId} {l : List Nat} {D : Nat} (h : yd P t l D) (w : World) {xs ys : Array Value} {o : Nat} (hx : fi l xs o) (hy : fi l ys o) :
    ∃ a b r, (part t xs o).run P w = .ok a w ∧ (part t ys o).run P w = .ok b w ∧ (Op.equalIn D t a b).run P w = .ok r w ∧ (r = true ↔ tT xs ys o l.length) := by
  obtain ⟨hl, ⟨d, i, hd, hi⟩, hA, hB⟩ := h
  cases hag : isAgg P t with
  | false =>
    obtain ⟨c, rfl, hc⟩ := hA hag
    obtain ⟨v, hv, kv⟩ := hx 0 c rfl
    obtain ⟨v', hv', kv'⟩ := hy 0 c rfl
    obtain ⟨r, h1, h2⟩ := hc w v v' kv kv'
    rw [Nat.add_zero] at hv hv'
    have run : ∀ {zs : Array Value} {z : Value}, zs[o]? = some z → (Go.part t zs o).run P w = .ok z w := fun hz => by
      unfold Go.part
      rw [Sem.run_bind, kK hag ⟨i, hi⟩ w ⟨d, hd⟩]
      simp [hz]
    refine ⟨v, v', r, run hv, run hv', h1, h2.trans ⟨fun e j hj => ?_, fun e => ?_⟩⟩
    · have : j = 0 := by simp at hj; exact hj
      subst this
      rw [Nat.add_zero, hv, hv', e]
    · have := e 0 (by simp)
      rw [Nat.add_zero, hv, hv'] at this
      exact Option.some.inj this
  | true =>
    have run : ∀ zs : Array Value, (Go.part t zs o).run P w = .ok (.agg (zs.extract o (o + l.length))) w := fun zs => by
      obtain ⟨d', hd', hrow, _⟩ := iK hag
      have hagr : (Go.isAgg t).run P w = .ok true w := by
        unfold Go.isAgg
        rw [Sem.run_bind, lu hd']
        cases d' <;> first | rfl | cases hrow
      unfold Go.part
      rw [Sem.run_bind, hagr]
      simp [adO hi, hl]
    have ex : ∀ {zs : Array Value}, fi l zs o → ∀ j, j < l.length → (zs.extract o (o + l.length))[0 + j]? = zs[o + j]? := fun {zs} hz j hj => by
      obtain ⟨v, hv, _⟩ := hz j l[j] (List.getElem?_eq_getElem hj)
      have hlt := (Array.getElem?_eq_some_iff.1 hv).1
      rw [Nat.zero_add, Array.getElem?_extract, if_pos (by omega)]
    have exK : ∀ {zs : Array Value}, fi l zs o → fi l (zs.extract o (o + l.length)) 0 := fun {zs} hz j c hc => by
      obtain ⟨v, hv, k⟩ := hz j c hc
      exact ⟨v, by rw [ex hz j (List.getElem?_eq_some_iff.1 hc).1]; exact hv, k⟩
    obtain ⟨r, h1, h2⟩ := hB hag w _ _ (exK hx) (exK hy)
    refine ⟨_, _, r, run xs, run ys, h1, h2.trans ⟨fun e j hj => ?_, fun e j hj => ?_⟩⟩
    · rw [← ex hx j hj, ← ex hy j hj]; exact e j hj
    · rw [ex hx j hj, ex hy j hj]; exact e j hj
theorem nO (w : World) {D : Nat} {f : TypeId → Option (List Nat)} (hf : ∀ t l, f t = some l → yd P t l D) {xs ys : Array Value} : ∀ (fs : List Field) (o : Nat) (l : List Nat), ct f fs o = some l → fi l xs o → fi l ys o →
    ∃ r, (Op.eqFields D xs ys fs).run P w = .ok r w ∧ (r = true ↔ tT xs ys o l.length)
  | [], o, l, h, _, _ => by
    have : l = [] := (Option.some.inj h).symm
    subst this
    exact ⟨true, by simp [Op.eqFields], ⟨fun _ i hi => absurd hi (Nat.not_lt_zero _), fun _ => rfl⟩⟩
  | x :: fs, o, l, h, hx, hy => by
    have h' : (Bool.rec (motive := fun _ => Option (List Nat)) none (Option.rec (motive := fun _ => Option (List Nat)) none (fun a => Option.rec (motive := fun _ => Option (List Nat)) none (fun b => some (nc a b)) (ct f fs (o + a.length))) (f x.type)) (aW (Nat.beq x.offset o) (bZ (x.name == "_"))) : Option (List Nat)) = some l := h
    rw [aZ] at h'
    split at h'
    · rename_i hb
      rw [aG, an, cR] at hb
      obtain ⟨ho, hn⟩ := hb
      cases ha : f x.type with
      | none => rw [ha] at h'; cases h'
      | some a =>
        rw [ha] at h'
        have h2 : (Option.rec (motive := fun _ => Option (List Nat)) none (fun b => some (nc a b)) (ct f fs (o + a.length)) : Option (List Nat)) = some l := h'
        cases hbb : ct f fs (o + a.length) with
        | none => rw [hbb] at h2; cases h2
        | some b =>
          rw [hbb] at h2
          have : l = a ++ b := by rw [← oI]; exact (Option.some.inj h2).symm
          subst this
          obtain ⟨va, vb, r, p1, p2, p3, p4⟩ := (hf _ _ ha).part w hx.left hy.left
          obtain ⟨r', q1, q2⟩ := nO w hf fs (o + a.length) b hbb hx.right hy.right
          have hn' : x.name ≠ "_" := by simpa using hn
          subst ho
          rw [List.length_append]
          cases r with
          | false =>
            refine ⟨false, ?_, ?_⟩
            · simp [Op.eqFields, hn', Sem.run_bind, p1, p2, p3]
            · rw [jF]
              exact ⟨fun e => Bool.noConfusion e, fun e => p4.2 e.1⟩
          | true =>
            refine ⟨r', ?_, ?_⟩
            · simp [Op.eqFields, hn', Sem.run_bind, p1, p2, p3, q1]
            · rw [jF, q2]
              exact ⟨fun e => ⟨p4.1 rfl, e⟩, fun e => e.2⟩
    · cases h'
theorem oB (n : Nat) (a : List Nat) : pB (n + 1) a = a ++ pB n a := oI _ _
theorem rJ (w : World) {D : Nat} {e : TypeId} {a : List Nat} (h : yd P e a D) {xs ys : Array Value} : ∀ (n s : Nat), fi (pB n a) xs (s * a.length) → fi (pB n a) ys (s * a.length) →
    ∃ r, (Op.eqItems D e a.length xs ys (List.range' s n)).run P w = .ok r w ∧ (r = true ↔ tT xs ys (s * a.length) (pB n a).length)
  | 0, s, _, _ => ⟨true, by simp [Op.eqItems], ⟨fun _ i hi => absurd hi (Nat.not_lt_zero _), fun _ => rfl⟩⟩
  | n + 1, s, hx, hy => by
    rw [oB] at hx hy
    obtain ⟨va, vb, r, p1, p2, p3, p4⟩ := h.part w hx.left hy.left
    have e1 : s * a.length + a.length = (s + 1) * a.length := by rw [Nat.add_mul, Nat.one_mul]
    obtain ⟨r', q1, q2⟩ := rJ w h n (s + 1) (by rw [← e1]; exact hx.right) (by rw [← e1]; exact hy.right)
    rw [oB, List.length_append, List.range'_succ]
    cases r with
    | false =>
      refine ⟨false, ?_, ?_⟩
      · simp [Op.eqItems, Sem.run_bind, p1, p2, p3]
      · rw [jF]
        exact ⟨fun e => Bool.noConfusion e, fun e => p4.2 e.1⟩
    | true =>
      refine ⟨r', ?_, ?_⟩
      · simp [Op.eqItems, Sem.run_bind, p1, p2, p3, q1]
      · rw [jF, e1, q2]
        exact ⟨fun e => ⟨p4.1 rfl, e⟩, fun e => e.2⟩
theorem a0U {t : TypeId} {d : TypeDesc} (h : bj P t = some d) : ∃ i, bC P t = some i := let ⟨_, i, _, h2⟩ := aj h; ⟨i, h2⟩
theorem oU : ∀ (d : Nat) (t : TypeId) (l : List Nat), fU P d t = some l → ∀ D, yd P t l (d + D) ∧ P.eqGuardType (d + D) t = false
  | 0, t, l, h, D => by cases h
  | d + 1, t, l, h, D => by
    have ih := oU d
    obtain ⟨h, hl⟩ := a03 (o := (match bj P t with
      | some .bool => some [0]
      | some .string => some [1]
      | some (.int q) => some [kc q + 2]
      | some (.struct fs) => Bool.rec (motive := fun _ => Option (List Nat)) none (ct (fU P d) fs.toList 0) (bZ (P.stoodInHeld t))
      | some (.array n e) => Option.rec (motive := fun _ => Option (List Nat)) none (fun a => some (pB n a)) (fU P d e)
      | _ => none)) h
    rw [show d + 1 + D = (d + D) + 1 by omega]
    cases hu : bj P t with
    | none => rw [hu] at h; cases h
    | some ds =>
      have hU := (aj hu).1
      obtain ⟨i, hi⟩ := a0U hu
      rw [hu] at h
      have cell : isAgg P t = false → ∀ c, l = [c] → (∀ w v v', n8 c v → n8 c v' → ∃ r, (Op.equalIn (d + D + 1) t v v').run P w = .ok r w ∧ (r = true ↔ v = v')) → yd P t l (d + D + 1) := fun hag c hlc hc =>
        ⟨hl, ⟨_, i, hu, hi⟩, fun _ => ⟨c, hlc, hc⟩, fun e => by rw [hag] at e; cases e⟩
      have hisA : ∀ b : Bool, (match some ds with | some (.struct _) | some (.array ..) => true | _ => false) = b → isAgg P t = b := fun b e => by
        unfold isAgg; rw [hu]; exact e
      cases ds with
      | bool =>
        refine ⟨cell (hisA _ rfl) 0 (Option.some.inj h).symm fun w v v' hv hv' => ?_, by simp [Program.eqGuardType, hU]⟩
        obtain ⟨x, rfl⟩ := hv
        obtain ⟨y, rfl⟩ := hv'
        exact ⟨_, run_equalIn_bool w _ t x y hU, by simp⟩
      | string =>
        refine ⟨cell (hisA _ rfl) 1 (Option.some.inj h).symm fun w v v' hv hv' => ?_, by simp [Program.eqGuardType, hU]⟩
        obtain ⟨x, rfl⟩ := hv
        obtain ⟨y, rfl⟩ := hv'
        exact ⟨_, run_equalIn_string w _ t x y hU, by rw [jc]; simp⟩
      | int q =>
        refine ⟨cell (hisA _ rfl) (kc q + 2) (Option.some.inj h).symm fun w v v' hv hv' => ?_, by simp [Program.eqGuardType, hU]⟩
        obtain ⟨x, rfl⟩ := hv
        obtain ⟨y, rfl⟩ := hv'
        exact ⟨_, run_equalIn_int w _ t _ q x y hU, by simp⟩
      | struct fs =>
        have h' : (Bool.rec (motive := fun _ => Option (List Nat)) none (ct (fU P d) fs.toList 0) (bZ (P.stoodInHeld t)) : Option (List Nat)) = some l := h
        rw [aZ] at h'
        split at h'
        · rename_i hb
          rw [cR, Bool.not_eq_true'] at hb
          have hfs : P.fieldsOf t = fs := by simp [Program.fieldsOf, hU]
          refine ⟨⟨hl, ⟨_, i, hu, hi⟩, fun e => by rw [hisA true rfl] at e; exact Bool.noConfusion e, fun _ w xs ys hx hy => ?_⟩, ?_⟩
          · rw [run_equalIn_struct w (d + D) t xs ys (by rw [hfs]; exact hU) hb, hfs]
            exact nO w (fun t l h => (ih t l h D).1) fs.toList 0 l h' hx hy
          · have key : ∀ (gs : List Field) (o : Nat) (l : List Nat), ct (fU P d) gs o = some l → ∀ f ∈ gs, P.eqGuardType (d + D) f.type = false := by
              intro gs
              induction gs with
              | nil => intro _ _ _ f hf; cases hf
              | cons x gs ihg =>
                intro o l h f hf
                have h' : (Bool.rec (motive := fun _ => Option (List Nat)) none (Option.rec (motive := fun _ => Option (List Nat)) none (fun a => Option.rec (motive := fun _ => Option (List Nat)) none (fun b => some (nc a b)) (ct (fU P d) gs (o + a.length))) (fU P d x.type)) (aW (Nat.beq x.offset o) (bZ (x.name == "_"))) : Option (List Nat)) = some l := h
                rw [aZ] at h'
                split at h'
                · cases ha : fU P d x.type with
                  | none => rw [ha] at h'; cases h'
                  | some a =>
                    rw [ha] at h'
                    have h2 : (Option.rec (motive := fun _ => Option (List Nat)) none (fun b => some (nc a b)) (ct (fU P d) gs (o + a.length)) : Option (List Nat)) = some l := h'
                    cases hbb : ct (fU P d) gs (o + a.length) with
                    | none => rw [hbb] at h2; cases h2
                    | some b =>
                      rcases List.mem_cons.1 hf with rfl | hf
                      · exact (ih _ _ ha D).2
                      · exact ihg _ _ hbb f hf
                · cases h'
            simp only [Program.eqGuardType, hU]
            rw [Array.any_eq_false]
            intro j hj
            have := key fs.toList 0 l h' fs[j] (by simp)
            simp [this]
        · cases h'
      | array n e =>
        have h' : (Option.rec (motive := fun _ => Option (List Nat)) none (fun a => some (pB n a)) (fU P d e) : Option (List Nat)) = some l := h
        cases ha : fU P d e with
        | none => rw [ha] at h'; cases h'
        | some a =>
          rw [ha] at h'
          have : l = pB n a := (Option.some.inj h').symm
          subst this
          obtain ⟨hea, hg⟩ := ih e a ha D
          obtain ⟨he1, ⟨d', ie, he2, he3⟩, _, _⟩ := hea
          refine ⟨⟨hl, ⟨_, i, hu, hi⟩, fun e => by rw [hisA true rfl] at e; exact Bool.noConfusion e, fun _ w xs ys hx hy => ?_⟩, ?_⟩
          · rw [run_equalIn_array w (d + D) xs ys hU (bl he3)]
            have hc : P.cellsOf e = a.length := by rw [he1, ba he3]; simp [Program.cellsOf, bl he3]
            rw [hc, List.range_eq_range']
            have := rJ w (ih e a ha D).1 (xs := xs) (ys := ys) n 0 (by rw [Nat.zero_mul]; exact hx) (by rw [Nat.zero_mul]; exact hy)
            rw [Nat.zero_mul] at this
            exact this
          · simp only [Program.eqGuardType, hU]; exact hg
      | _ => cases h
end
def b6 (q : Nat) (x : Bool) (u : Value) : Prop := match q, x with
  | 0, true => u = .pointer none
  | 0, false => ∃ a, u = .pointer (some a)
  | 1, true => u = .slice none 0 0
  | 1, false => ∃ a n c, u = .slice (some a) n c
  | 2, true => u = .nilFunc
  | 2, false => ∃ f a b, u = .func f a b
  | 3, true => u = .map none
  | 3, false => ∃ m, u = .map (some m)
  | _, true => u = .nilIface
  | _, false => ∃ t v, u = .iface t v
section
variable {R : ab} (hR : R ≠ .fail)
include hR
theorem jt {q : Nat} (hq : q < 5) {v : AV} {k : Bool → ab} (g : vl q v k = R) : ∃ x, k x = R ∧ ∀ {w : World} {F : Nat → Prop} {μ : Mu} {u : Value}, ae w F μ v u → b6 q x u := by
  cases v with
  | int => exact aa hR g
  | bool => exact aa hR g
  | str => exact aa hR g
  | ptr b o =>
    obtain ⟨h, g2⟩ := ah hR g
    rw [an] at h; subst h
    exact ⟨false, g2, fun hc => by obtain ⟨m, _, rfl⟩ := dC hc; exact ⟨_, rfl⟩⟩
  | ms b o n z =>
    obtain ⟨h, g2⟩ := ah hR g
    rw [an] at h; subst h
    exact ⟨false, g2, fun hc => by cases hc <;> exact ⟨_, _, _, rfl⟩⟩
  | vs t o n z =>
    obtain ⟨h, g2⟩ := ah hR g
    rw [an] at h; subst h
    exact ⟨false, g2, fun hc => by cases hc <;> exact ⟨_, _, _, rfl⟩⟩
  | agg => exact aa hR g
  | bM => exact aa hR g
  | x i t a b c =>
    have g' : when (Nat.beq i (Nat.add q 7)) (k true) (aq (nilX q i) (k false)) = R := g
    rcases ar hR g' with ⟨h, g2⟩ | ⟨_, g2⟩
    · rw [an] at h; subst h
      refine ⟨true, g2, fun hc => ?_⟩
      match q, hq with
      | 0, _ => cases hc; rfl
      | 1, _ => cases hc; rfl
      | 2, _ => cases hc; rfl
      | 3, _ => cases hc; rfl
      | 4, _ => cases hc; rfl
    · obtain ⟨h, g2⟩ := ah hR g2
      refine ⟨false, g2, fun hc => ?_⟩
      match q, hq with
      | 0, _ =>
        have h : Nat.beq i 1 = true := h
        rw [an] at h; subst h; cases hc; exact ⟨_, rfl⟩
      | 1, _ =>
        have h : Nat.beq i 6 = true := h
        rw [an] at h; subst h; cases hc; exact ⟨_, _, _, rfl⟩
      | 2, _ =>
        have h : (Nat.beq i 3 || Nat.beq i 5) = true := h
        rw [Bool.or_eq_true, an, an] at h
        rcases h with rfl | rfl <;> cases hc <;> exact ⟨_, _, _, rfl⟩
      | 3, _ =>
        have h : Nat.beq i 4 = true := h
        rw [an] at h; subst h; cases hc; exact ⟨_, rfl⟩
      | 4, _ =>
        have h : Nat.beq i 12 = true := h
        rw [an] at h; subst h; cases hc; exact ⟨_, _, rfl⟩
end
section
variable {P : Program} {R : ab} (hR : R ≠ .fail)
theorem gL {op : BinOp} {t : TypeId} {x y : Operand} {u v : Value} (w : World) (h1 : ¬ (u = .nilIface ∧ v = .nilIface)) (h2 : ∀ cs ds, u = .agg cs → v = .agg ds → P.eqGuardType P.depth t = false) : (eqGuard op t x y u v).run P w = .ok () w := by
  unfold eqGuard
  cases op <;> first
    | rfl
    | (simp only [Bool.not_true, Bool.false_eq_true, if_false]
       split
       · exact absurd ⟨rfl, rfl⟩ h1
       · rename_i cs ds
         simp [h2 cs ds rfl rfl]
       · rfl)
def oJ (op : BinOp) (t : TypeId) (x y : Operand) (u v : Value) : Sem Value := do eqGuard op t x y u v; binOp op t u v
theorem gb {op : BinOp} {t : TypeId} {x y : Operand} {u v : Value} {w : World} (h : (eqGuard op t x y u v).run P w = .ok () w) : (oJ op t x y u v).run P w = (binOp op t u v).run P w := by
  unfold oJ; rw [Sem.run_bind, h]; rfl
theorem wy {t : TypeId} {u v : Value} {w : World} {r : Bool} (h : (Op.equal t u v).run P w = .ok r w) (h1 : ∀ k n, u ≠ .int k n) (h2 : ∀ s, u ≠ .string s) (h3 : ∀ k n, u ≠ .float k n) (h4 : ∀ k n m, u ≠ .complex k n m) :
    (binOp .eql t u v).run P w = .ok (.bool r) w ∧ (binOp .neq t u v).run P w = .ok (.bool (!r)) w := by
  constructor <;> unfold binOp <;> split <;> first | (exact absurd rfl (h1 _ _)) | (exact absurd rfl (h2 _)) | (exact absurd rfl (h3 _ _)) | (exact absurd rfl (h4 _ _ _)) | (simp [h, Sem.run_bind]; done) | simp_all
theorem yx (P : Program) : ∃ D, P.depth = 20 + D := ⟨P.depth - 20, by unfold Program.depth Made.depth; omega⟩
theorem a4p (D : Nat) {t : TypeId} {e : TypeId} (hU : P.underlying t = some (.pointer e)) {w : World} {x y : Bool} {u v : Value} (hxy : x = true ∨ y = true) (hx : b6 0 x u) (hy : b6 0 y v) : (Op.equalIn (D + 1) t u v).run P w = .ok (x && y) w := by
  cases x <;> cases y <;> simp only [b6] at hx hy
  · simp at hxy
  · obtain ⟨_, rfl⟩ := hx; subst hy
    simp [Op.equalIn, run_underlying hU]
  · obtain ⟨_, rfl⟩ := hy; subst hx
    simp [Op.equalIn, run_underlying hU]
  · subst hx; subst hy
    simp [Op.equalIn, run_underlying hU]
theorem a1V (x : Bool) (u : Value) (hx : b6 0 x u) : ((∀ k n, u ≠ .int k n) ∧ (∀ s, u ≠ .string s) ∧ (∀ k n, u ≠ .float k n) ∧ (∀ k n m, u ≠ .complex k n m)) ∧ u ≠ .nilIface ∧ ∀ cs, u ≠ .agg cs := by
  cases x <;> simp only [b6] at hx
  · obtain ⟨_, rfl⟩ := hx; simp
  · subst hx; simp
theorem yA (D : Nat) {t : TypeId} {e : TypeId} (hU : P.underlying t = some (.slice e)) {w : World} {x y : Bool} {u v : Value} (hxy : x = true ∨ y = true) (hx : b6 1 x u) (hy : b6 1 y v) : (Op.equalIn (D + 1) t u v).run P w = .ok (x && y) w := by
  cases x <;> cases y <;> simp only [b6] at hx hy
  · simp at hxy
  · obtain ⟨_, _, _, rfl⟩ := hx; subst hy
    simp [Op.equalIn, run_underlying hU]
  · obtain ⟨_, _, _, rfl⟩ := hy; subst hx
    simp [Op.equalIn, run_underlying hU]
  · subst hx; subst hy
    simp [Op.equalIn, run_underlying hU]
theorem vn (x : Bool) (u : Value) (hx : b6 1 x u) : ((∀ k n, u ≠ .int k n) ∧ (∀ s, u ≠ .string s) ∧ (∀ k n, u ≠ .float k n) ∧ (∀ k n m, u ≠ .complex k n m)) ∧ u ≠ .nilIface ∧ ∀ cs, u ≠ .agg cs := by
  cases x <;> simp only [b6] at hx
  · obtain ⟨_, _, _, rfl⟩ := hx; simp
  · subst hx; simp
theorem a0J (D : Nat) {t : TypeId} {e e1 e2} (hU : P.underlying t = some (.func e e1 e2)) {w : World} {x y : Bool} {u v : Value} (hxy : x = true ∨ y = true) (hx : b6 2 x u) (hy : b6 2 y v) : (Op.equalIn (D + 1) t u v).run P w = .ok (x && y) w := by
  cases x <;> cases y <;> simp only [b6] at hx hy
  · simp at hxy
  · obtain ⟨_, _, _, rfl⟩ := hx; subst hy
    simp [Op.equalIn, run_underlying hU]
  · obtain ⟨_, _, _, rfl⟩ := hy; subst hx
    simp [Op.equalIn, run_underlying hU]
  · subst hx; subst hy
    simp [Op.equalIn, run_underlying hU]
theorem zk (x : Bool) (u : Value) (hx : b6 2 x u) : ((∀ k n, u ≠ .int k n) ∧ (∀ s, u ≠ .string s) ∧ (∀ k n, u ≠ .float k n) ∧ (∀ k n m, u ≠ .complex k n m)) ∧ u ≠ .nilIface ∧ ∀ cs, u ≠ .agg cs := by
  cases x <;> simp only [b6] at hx
  · obtain ⟨_, _, _, rfl⟩ := hx; simp
  · subst hx; simp
theorem a4o (D : Nat) {t : TypeId} {e e1 : TypeId} (hU : P.underlying t = some (.map e e1)) {w : World} {x y : Bool} {u v : Value} (hxy : x = true ∨ y = true) (hx : b6 3 x u) (hy : b6 3 y v) : (Op.equalIn (D + 1) t u v).run P w = .ok (x && y) w := by
  cases x <;> cases y <;> simp only [b6] at hx hy
  · simp at hxy
  · obtain ⟨_, rfl⟩ := hx; subst hy
    simp [Op.equalIn, run_underlying hU]
  · obtain ⟨_, rfl⟩ := hy; subst hx
    simp [Op.equalIn, run_underlying hU]
  · subst hx; subst hy
    simp [Op.equalIn, run_underlying hU]
theorem a1U (x : Bool) (u : Value) (hx : b6 3 x u) : ((∀ k n, u ≠ .int k n) ∧ (∀ s, u ≠ .string s) ∧ (∀ k n, u ≠ .float k n) ∧ (∀ k n m, u ≠ .complex k n m)) ∧ u ≠ .nilIface ∧ ∀ cs, u ≠ .agg cs := by
  cases x <;> simp only [b6] at hx
  · obtain ⟨_, rfl⟩ := hx; simp
  · subst hx; simp
def vQ (P : Program) (R : ab) (t : TypeId) (a b : AV) (k : Bool → ab) : Prop :=
  ∃ r, k r = R ∧ ∀ {w : World} {F : Nat → Prop} {μ : Mu} {u v : Value}, ae w F μ a u → ae w F μ b v → (Op.equal t u v).run P w = .ok r w ∧ ((∀ k n, u ≠ .int k n) ∧ (∀ s, u ≠ .string s) ∧ (∀ k n, u ≠ .float k n) ∧ (∀ k n m, u ≠ .complex k n m)) ∧
      ¬ (u = .nilIface ∧ v = .nilIface) ∧ ∀ cs ds, u = .agg cs → v = .agg ds → P.eqGuardType P.depth t = false
include hR in
theorem a4n {t : TypeId} {a b : AV} {k : Bool → ab} (g : eqV (gx P t) a b k = R) :
    vQ P R t a b k := by
  have nil : ∀ q, q < 4 → eqV (.nil q) a b k = R → (∀ {w : World} {x y : Bool} {u v : Value}, (x = true ∨ y = true) → b6 q x u → b6 q y v → (Op.equal t u v).run P w = .ok (x && y) w) →
      (∀ x u, b6 q x u → ((∀ k n, u ≠ .int k n) ∧ (∀ s, u ≠ .string s) ∧ (∀ k n, u ≠ .float k n) ∧ (∀ k n m, u ≠ .complex k n m)) ∧ u ≠ .nilIface ∧ ∀ cs, u ≠ .agg cs) →
      vQ P R t a b k := by
    intro q hq g he hs
    obtain ⟨x, g1, h1⟩ := jt hR (Nat.lt_succ_of_lt hq) (show vl q a (fun x => vl q b fun y => (Bool.rec (motive := fun _ => ab) (aq y (k false)) (eK y k) x : ab)) = R from g)
    obtain ⟨y, g2, h2⟩ := jt hR (Nat.lt_succ_of_lt hq) g1
    have fin : ∀ r, r = (x && y) → (x = true ∨ y = true) → k r = R → vQ P R t a b k := fun r hr hxy g => ⟨r, g, fun {w F μ u v} ha hb => by
      have hn := hs x u (h1 ha)
      exact ⟨hr ▸ he hxy (h1 ha) (h2 hb), hn.1, fun e => hn.2.1 e.1, fun cs ds e => absurd e (hn.2.2 cs)⟩⟩
    cases x with
    | true =>
      have g2' : eK y k = R := g2
      rw [dH] at g2'
      exact fin y (by simp) (.inl rfl) g2'
    | false =>
      obtain ⟨hy, g3⟩ := ah hR (show aq y (k false) = R from g2)
      subst hy
      exact fin false rfl (.inr rfl) g3
  unfold gx at g
  cases hu : bj P t with
  | none => rw [hu] at g; exact aa hR g
  | some d =>
    have hU := (aj hu).1
    rw [hu] at g
    have aggs : (Option.rec (motive := fun _ => EqP) .no (fun l => .cells l) (fU P 20 t) : EqP) = .no ∨ (∃ l, fU P 20 t = some l ∧ (Option.rec (motive := fun _ => EqP) .no (fun l => .cells l) (fU P 20 t) : EqP) = .cells l) := by
      cases fU P 20 t with
      | none => exact .inl rfl
      | some l => exact .inr ⟨l, rfl, rfl⟩
    have agg : isAgg P t = true → eqV (Option.rec (motive := fun _ => EqP) .no (fun l => .cells l) (fU P 20 t)) a b k = R → vQ P R t a b k := fun hag g => by
      rcases aggs with e | ⟨l, hl, e⟩
      · rw [e] at g; exact aa hR g
      · rw [e] at g
        obtain ⟨tl, m, rfl, g1⟩ := bU hR g
        obtain ⟨ul, n, rfl, g2⟩ := bU hR g1
        obtain ⟨hm, g3⟩ := ah hR g2
        obtain ⟨hn, g4⟩ := ah hR g3
        rw [an] at hm hn
        obtain ⟨r, g5, h5⟩ := wz hR g4
        refine ⟨r, g5, fun {w F μ u v} ha hb => ?_⟩
        cases ha with
        | @agg _ _ _ cs us hs hu1 h1 h =>
          cases hb with
          | @agg _ _ _ ds vs hs' hu1' h1' h' =>
            obtain ⟨q1, q2⟩ := h5 (us := us) (vs := vs) fun i hi => ⟨h i (by omega), h' i (by omega)⟩
            have hk : fi l cs 0 := fun i c hc => ⟨us i, by rw [Nat.zero_add]; exact hu1 i (by have := (List.getElem?_eq_some_iff.1 hc).1; omega), (q1 i c hc).1⟩
            have hk' : fi l ds 0 := fun i c hc => ⟨vs i, by rw [Nat.zero_add]; exact hu1' i (by have := (List.getElem?_eq_some_iff.1 hc).1; omega), (q1 i c hc).2⟩
            obtain ⟨r', p1, p2⟩ := (oU 20 t l hl 9980).1.2.2.2 hag w cs ds hk hk'
            have hrr : r' = r := by
              have : r' = true ↔ r = true := by
                rw [p2, q2]
                refine ⟨fun e i hi => ?_, fun e i hi => ?_⟩
                · have := e i hi
                  rw [Nat.zero_add, hu1 i (by omega), hu1' i (by omega)] at this
                  exact Option.some.inj this
                · rw [Nat.zero_add, hu1 i (by omega), hu1' i (by omega), e i hi]
              cases r <;> cases r' <;> simp_all
            subst hrr
            obtain ⟨D, hD⟩ := yx P
            exact ⟨p1, ⟨fun _ _ => by simp, fun _ => by simp, fun _ _ => by simp, fun _ _ _ => by simp⟩, fun e => by simp at e, fun _ _ _ _ => by rw [hD]; exact (oU 20 t l hl D).2⟩
    cases d with
    | bool =>
      obtain ⟨r, g1, h1⟩ := iI (c := 0) hR (show jW 0 a b k = R from g)
      refine ⟨r, g1, fun {w F μ u v} ha hb => ?_⟩
      obtain ⟨⟨x, rfl⟩, ⟨y, rfl⟩, h3⟩ := h1 ha hb
      refine ⟨?_, ⟨fun _ _ => by simp, fun _ => by simp, fun _ _ => by simp, fun _ _ _ => by simp⟩, fun e => by simp at e, fun _ _ e => by simp at e⟩
      have := run_equalIn_bool w 9999 t x y hU
      have e : (x == y) = r := by
        cases r <;> simp_all
      rw [e] at this; exact this
    | pointer e => exact nil 0 (by omega) g (fun hxy hx hy => a4p 9999 hU hxy hx hy) a1V
    | slice e => exact nil 1 (by omega) g (fun hxy hx hy => yA 9999 hU hxy hx hy) vn
    | func a b c => exact nil 2 (by omega) g (fun hxy hx hy => a0J 9999 hU hxy hx hy) zk
    | map a b => exact nil 3 (by omega) g (fun hxy hx hy => a4o 9999 hU hxy hx hy) a1U
    | struct fs => exact agg (by unfold isAgg; rw [hu]) g
    | array n e => exact agg (by unfold isAgg; rw [hu]) g
    | _ => exact aa hR g
include hR in
theorem a1X {t : TypeId} {op : BinOp} {x y : Operand} {a b : AV} {k : AV → ab} (g : (a1W (gx P t) op).f a b k = R) : ∃ v, k v = R ∧ bY P (oJ op t x y) a b v := by
  have fin : ∀ (s : Bool → Bool), (op = .eql ∧ s = id ∨ op = .neq ∧ s = (!·)) → (eqV (gx P t) a b fun r => k (.bool (s r))) = R → ∃ v, k v = R ∧ bY P (oJ op t x y) a b v := fun s hs g => by
    obtain ⟨r, g1, h⟩ := a4n hR g
    refine ⟨_, g1, fun {w F μ u v} ha hb => ?_⟩
    obtain ⟨h1, ⟨h2, h3, h4, h5⟩, h6, h7⟩ := h ha hb
    obtain ⟨e1, e2⟩ := wy h1 h2 h3 h4 h5
    rw [gb (gL w h6 h7)]
    rcases hs with ⟨rfl, rfl⟩ | ⟨rfl, rfl⟩
    · exact ⟨_, e1, .bool _⟩
    · exact ⟨_, e2, .bool _⟩
  cases op with
  | eql => exact fin id (.inl ⟨rfl, rfl⟩) g
  | neq => exact fin (!·) (.inr ⟨rfl, rfl⟩) (by
      have e : (fun r : Bool => k (.bool (!r))) = fun r => k (.bool (bZ r)) := funext fun r => by rw [cR]
      rw [e]; exact g)
  | _ => exact aa hR g
theorem rG {P : Program} {t : TypeId} (h : isIface P t = true) : ∃ ms, P.underlying t = some (.interface ms) := by
  unfold isIface at h
  split at h
  · rename_i ms hu; exact ⟨ms, (aj hu).1⟩
  · cases h
theorem yz (D : Nat) {P : Program} {t : TypeId} {ms : Array (String × TypeId)} (hU : P.underlying t = some (.interface ms)) {b : Bool} {u : Value} (hu : b6 4 b u) (w : World) : (Op.equalIn (D + 1) t u .nilIface).run P w = .ok b w := by
  cases b with
  | true =>
    have hu' : u = .nilIface := hu
    subst hu'
    simp [Op.equalIn, run_underlying hU]
  | false =>
    obtain ⟨tt, v, rfl⟩ : ∃ tt v, u = .iface tt v := hu
    simp [Op.equalIn, run_underlying hU]
theorem a3L {t : TypeId} {x y : Operand} (hi : isIface P t = true) (hy : pb y = true) {b : Bool} {u : Value} (hu : b6 4 b u) (w : World) :
    y = .const .nilIface ∧ (oJ .eql t x y u .nilIface).run P w = .ok (.bool b) w ∧ (oJ .neq t x y u .nilIface).run P w = .ok (.bool (!b)) w := by
  obtain ⟨ms, hU⟩ := rG hi
  have e : y = .const .nilIface := by
    unfold pb at hy
    split at hy
    · rfl
    · cases hy
  subst e
  have hg : ∀ op : BinOp, (eqGuard op t x (.const .nilIface) u .nilIface).run P w = .ok () w := fun op => by
    unfold eqGuard
    cases b with
    | true =>
      have hu' : u = .nilIface := hu
      subst hu'
      cases op <;> simp
    | false =>
      obtain ⟨tt, v, rfl⟩ : ∃ tt v, u = .iface tt v := hu
      cases op <;> simp
  have he : (Op.equal t u .nilIface).run P w = .ok b w := yz 9999 hU hu w
  have hno : (∀ k n, u ≠ .int k n) ∧ (∀ s, u ≠ .string s) ∧ (∀ k n, u ≠ .float k n) ∧ ∀ k n m, u ≠ .complex k n m := by
    cases b with
    | true =>
      have hu' : u = .nilIface := hu
      subst hu'; simp
    | false =>
      obtain ⟨tt, v, rfl⟩ : ∃ tt v, u = .iface tt v := hu
      simp
  obtain ⟨e1, e2⟩ := wy he hno.1 hno.2.1 hno.2.2.1 hno.2.2.2
  exact ⟨rfl, by rw [gb (hg _)]; exact e1, by rw [gb (hg _)]; exact e2⟩
include hR in
theorem a3M {t : TypeId} {op : BinOp} {x y : Operand} {a b : AV} {k : AV → ab} (g : (match bj P t with
    | some (.int ik) => k9 op (kc ik)
    | some .string => a34 op
    | _ => a1W (gx P t) op : BK).f a b k = R) : ∃ v, k v = R ∧ bY P (oJ op t x y) a b v := by
  split at g
  · rename_i ik _
    obtain ⟨v, h1, g1⟩ := a0Q hR ik t g
    have hint : ∃ i n, a = .int i n := by
      cases ik <;> cases op <;> exact (let ⟨i, n, h, _⟩ := aR hR g; ⟨i, n, h⟩)
    obtain ⟨i, n, rfl⟩ := hint
    refine ⟨v, g1, fun {w F μ u u'} ha hb => ?_⟩
    have ha' := aY ha
    rw [gb (gL w (fun e => by rw [ha'.2] at e; simp at e) (fun cs ds e => by rw [ha'.2] at e; cases e))]
    exact h1 ha hb
  · obtain ⟨v, h1, g1⟩ := a36 hR t g
    have hstr : ∃ i n, a = .str i n := by
      cases op <;> first | exact (let ⟨i, n, h, _⟩ := aM hR g; ⟨i, n, h⟩) | exact aa hR g
    obtain ⟨i, n, rfl⟩ := hstr
    refine ⟨v, g1, fun {w F μ u u'} ha hb => ?_⟩
    obtain ⟨s, hs, _⟩ := cy ha
    rw [gb (gL w (fun e => by rw [hs] at e; simp at e) (fun cs ds e => by rw [hs] at e; cases e))]
    exact h1 ha hb
  · exact a1X hR g
end
end Go.Proofs.YtdlohaedegmiaaaGreatDoor.Ev
