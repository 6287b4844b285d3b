import Derived.Test.YtlffjnddiiojnaaGreatDoorEvC
import Derived.OrdersIn
import Derived.Laws.Tables
/- Values held against each other. -/
namespace Go.Proofs.YtlffjnddiiojnaaGreatDoor.Ev
/-- Is the value a cell of a kind? -/
def KAt (c : Nat) (v : Value) : Prop := match c with
  | 0 => ∃ b, v = .bool b
  | 1 => ∃ s, v = .string s
  | q + 2 => ∃ n, v = .int (kd q) n
theorem bytes_eq (x y : ByteArray) : (x.toList == y.toList) = true ↔ x = y := by
  rw [ByteArray.toList_eq, ByteArray.toList_eq, beq_iff_eq]
  constructor
  · intro h
    obtain ⟨⟨a⟩⟩ := x
    obtain ⟨⟨b⟩⟩ := y
    simp only at h
    rw [h]
  · rintro rfl; rfl
section
variable {R : Res} (hR : R ≠ .fail)
include hR in
theorem cellEq_out {c : Nat} {a b : AV} {k : Bool → Res} (g : cellEq c a b k = R) : ∃ r, k r = R ∧ ∀ {w : World} {F : Nat → Prop} {μ : Mu} {u v : Value}, CRel w F μ a u → CRel w F μ b v → KAt c u ∧ KAt c v ∧ (r = true ↔ u = v) := by
  match c with
  | 0 =>
    obtain ⟨x, rfl, g2⟩ := onBool_out hR g
    obtain ⟨y, rfl, g3⟩ := onBool_out hR g2
    rw [forceB_eq] at g3
    refine ⟨_, g3, fun {w F μ u v} ha hb => ?_⟩
    rw [inv_bool ha, inv_bool hb]
    refine ⟨⟨_, rfl⟩, ⟨_, rfl⟩, ?_⟩
    rw [bnot_eq, bxor_eq]
    cases x <;> cases y <;> simp
  | 1 =>
    obtain ⟨s, n, t, m, rfl, rfl, g2⟩ := str2_out hR g
    rw [forceB_eq] at g2
    refine ⟨_, g2, fun {w F μ u v} ha hb => ?_⟩
    obtain ⟨x, rfl, rfl, rfl⟩ := inv_str ha
    obtain ⟨y, rfl, rfl, rfl⟩ := inv_str hb
    refine ⟨⟨_, rfl⟩, ⟨_, rfl⟩, ?_⟩
    rw [strEq_bytes, bytes_eq]
    simp
  | q + 2 =>
    obtain ⟨x, y, rfl, rfl, g2⟩ := int2_out hR g
    rw [forceB_eq] at g2
    refine ⟨_, g2, fun {w F μ u v} ha hb => ?_⟩
    obtain ⟨h1, rfl⟩ := inv_int ha
    obtain ⟨h2, rfl⟩ := inv_int hb
    refine ⟨⟨_, rfl⟩, ⟨_, rfl⟩, ?_⟩
    rw [beqN, Value.int.injEq, T_inj q x y h1 h2]
    simp
include hR in
theorem eqs_out : ∀ {l : List Nat} {t u : Row} {k : Bool → Res}, eqs l t u k = R → ∃ r, k r = R ∧ ∀ {w : World} {F : Nat → Prop} {μ : Mu} {us vs : Nat → Value}, (∀ i, i < l.length → CRel w F μ (nth t i) (us i) ∧ CRel w F μ (nth u i) (vs i)) →
    (∀ i c, l[i]? = some c → KAt c (us i) ∧ KAt c (vs i)) ∧ (r = true ↔ ∀ i, i < l.length → us i = vs i)
  | [], t, u, k, g => ⟨true, g, fun _ => ⟨fun i c h => by simp at h, by simp⟩⟩
  | c :: l, t, u, k, g => by
    cases t with
    | lf => exact fail_out hR g
    | nd a tl tr =>
      cases u with
      | lf => exact fail_out hR g
      | nd b ul ur =>
        obtain ⟨r, g, h1⟩ := cellEq_out hR g
        obtain ⟨r2, g, h2⟩ := eqs_out g
        refine ⟨_, g, fun {w F μ us vs} h => ?_⟩
        obtain ⟨q1, q2, q3⟩ := h1 (h 0 (Nat.succ_pos _)).1 (h 0 (Nat.succ_pos _)).2
        obtain ⟨p1, p2⟩ := h2 (us := fun i => us (i + 1)) (vs := fun i => vs (i + 1)) fun i hi => h (i + 1) (Nat.succ_lt_succ hi)
        refine ⟨fun i c' hc => ?_, ?_⟩
        · cases i with
          | zero => simp at hc; subst hc; exact ⟨q1, q2⟩
          | succ i => exact p1 i c' (by simpa using hc)
        · rw [and2_eq, q3, p2]
          constructor
          · rintro ⟨e1, e2⟩ i hi
            cases i with
            | zero => exact e1
            | succ i => exact e2 i (Nat.lt_of_succ_lt_succ hi)
          · intro e
            exact ⟨e 0 (Nat.succ_pos _), fun i hi => e (i + 1) (Nat.succ_lt_succ hi)⟩
end
section
variable {P : Program}
theorem appL_eq (a b : List Nat) : appL a b = a ++ b := by
  induction a with
  | nil => rfl
  | cons x a ih => exact congrArg (x :: ·) ih
theorem chkO_out {n : Nat} {o : Option (List Nat)} {l : List Nat} (h : chkO n o = some l) : o = some l ∧ l.length = n := by
  cases o with
  | none => cases h
  | some a =>
    have h' : (Bool.rec (motive := fun _ => Option (List Nat)) none (some a) (Nat.beq a.length n) : Option (List Nat)) = some l := h
    rw [bcase] at h'
    split at h'
    · rename_i hb; rw [beqN] at hb; cases h'; exact ⟨rfl, hb⟩
    · cases h'
/-- Cells of an array from a place on are of kinds. -/
def KAll (l : List Nat) (xs : Array Value) (o : Nat) : Prop := ∀ i c, l[i]? = some c → ∃ v, xs[o + i]? = some v ∧ KAt c v
theorem KAll.left {a b : List Nat} {xs : Array Value} {o : Nat} (h : KAll (a ++ b) xs o) : KAll a xs o := fun i c hc => h i c (by
  obtain ⟨hi, _⟩ := List.getElem?_eq_some_iff.1 hc
  rw [List.getElem?_append_left hi]; exact hc)
theorem KAll.right {a b : List Nat} {xs : Array Value} {o : Nat} (h : KAll (a ++ b) xs o) : KAll b xs (o + a.length) := fun i c hc => by
  obtain ⟨v, h1, h2⟩ := h (a.length + i) c (by rw [List.getElem?_append_right (by omega), Nat.add_sub_cancel_left]; exact hc)
  exact ⟨v, by rw [Nat.add_assoc]; exact h1, h2⟩
/-- Do two arrays' cells agree? -/
def Same (xs ys : Array Value) (o n : Nat) : Prop := ∀ i, i < n → xs[o + i]? = ys[o + i]?
theorem same_add {xs ys : Array Value} {o n m : Nat} : Same xs ys o (n + m) ↔ Same xs ys o n ∧ Same xs ys (o + n) m :=
  ⟨fun h => ⟨fun i hi => h i (by omega), fun i hi => by rw [Nat.add_assoc]; exact h (n + i) (by omega)⟩, fun ⟨h1, h2⟩ i hi => by
    by_cases e : i < n
    · exact h1 i e
    · have := h2 (i - n) (by omega)
      rw [show o + n + (i - n) = o + i by omega] at this; exact this⟩
/-- What is said of a type at each depth: its values are told apart by its cells. -/
def EqOk (P : Program) (t : TypeId) (l : List Nat) (D : Nat) : Prop :=
  l.length = szOf P t ∧ (∃ d i, und P t = some d ∧ infoL P t = some i) ∧
  (isAgg P t = false → ∃ c, l = [c] ∧ ∀ w v v', KAt c v → KAt c v' → ∃ r, (Op.equalIn D t v v').run P w = .ok r w ∧ (r = true ↔ v = v')) ∧
  (isAgg P t = true → ∀ w xs ys, KAll l xs 0 → KAll l ys 0 → ∃ r, (Op.equalIn D t (.agg xs) (.agg ys)).run P w = .ok r w ∧ (r = true ↔ Same xs ys 0 l.length))
theorem EqOk.part {t : TypeId} {l : List Nat} {D : Nat} (h : EqOk P t l D) (w : World) {xs ys : Array Value} {o : Nat} (hx : KAll l xs o) (hy : KAll l ys o) :
    ∃ a b r, (part t xs o).run P w = .ok a w ∧ (part t ys o).run P w = .ok b w ∧ (Op.equalIn D t a b).run P w = .ok r w ∧ (r = true ↔ Same xs ys o l.length) := by
  obtain ⟨hl, ⟨d, i, hd, hi⟩, hA, hB⟩ := h
  cases hag : isAgg P t with
  | false =>
    obtain ⟨c, rfl, hc⟩ := hA hag
    obtain ⟨v, hv, kv⟩ := hx 0 c rfl
    obtain ⟨v', hv', kv'⟩ := hy 0 c rfl
    obtain ⟨r, h1, h2⟩ := hc w v v' kv kv'
    rw [Nat.add_zero] at hv hv'
    have run : ∀ {zs : Array Value} {z : Value}, zs[o]? = some z → (Go.part t zs o).run P w = .ok z w := fun hz => by
      unfold Go.part
      rw [Sem.run_bind, isAgg_false hag ⟨i, hi⟩ w ⟨d, hd⟩]
      simp [hz]
    refine ⟨v, v', r, run hv, run hv', h1, h2.trans ⟨fun e j hj => ?_, fun e => ?_⟩⟩
    · have : j = 0 := by simp at hj; exact hj
      subst this
      rw [Nat.add_zero, hv, hv', e]
    · have := e 0 (by simp)
      rw [Nat.add_zero, hv, hv'] at this
      exact Option.some.inj this
  | true =>
    have run : ∀ zs : Array Value, (Go.part t zs o).run P w = .ok (.agg (zs.extract o (o + l.length))) w := fun zs => by
      obtain ⟨d', hd', hrow, _⟩ := isAgg_true hag
      have hagr : (Go.isAgg t).run P w = .ok true w := by
        unfold Go.isAgg
        rw [Sem.run_bind, run_und hd']
        cases d' <;> first | rfl | cases hrow
      unfold Go.part
      rw [Sem.run_bind, hagr]
      simp [run_sz hi, hl]
    have ex : ∀ {zs : Array Value}, KAll l zs o → ∀ j, j < l.length → (zs.extract o (o + l.length))[0 + j]? = zs[o + j]? := fun {zs} hz j hj => by
      obtain ⟨v, hv, _⟩ := hz j l[j] (List.getElem?_eq_getElem hj)
      have hlt := (Array.getElem?_eq_some_iff.1 hv).1
      rw [Nat.zero_add, Array.getElem?_extract, if_pos (by omega)]
    have exK : ∀ {zs : Array Value}, KAll l zs o → KAll l (zs.extract o (o + l.length)) 0 := fun {zs} hz j c hc => by
      obtain ⟨v, hv, k⟩ := hz j c hc
      exact ⟨v, by rw [ex hz j (List.getElem?_eq_some_iff.1 hc).1]; exact hv, k⟩
    obtain ⟨r, h1, h2⟩ := hB hag w _ _ (exK hx) (exK hy)
    refine ⟨_, _, r, run xs, run ys, h1, h2.trans ⟨fun e j hj => ?_, fun e j hj => ?_⟩⟩
    · rw [← ex hx j hj, ← ex hy j hj]; exact e j hj
    · rw [ex hx j hj, ex hy j hj]; exact e j hj
theorem fields_ok (w : World) {D : Nat} {f : TypeId → Option (List Nat)} (hf : ∀ t l, f t = some l → EqOk P t l D) {xs ys : Array Value} : ∀ (fs : List Field) (o : Nat) (l : List Nat), fieldKs f fs o = some l → KAll l xs o → KAll l ys o →
    ∃ r, (Op.eqFields D xs ys fs).run P w = .ok r w ∧ (r = true ↔ Same xs ys o l.length)
  | [], o, l, h, _, _ => by
    have : l = [] := (Option.some.inj h).symm
    subst this
    exact ⟨true, by simp [Op.eqFields], ⟨fun _ i hi => absurd hi (Nat.not_lt_zero _), fun _ => rfl⟩⟩
  | x :: fs, o, l, h, hx, hy => by
    have h' : (Bool.rec (motive := fun _ => Option (List Nat)) none (Option.rec (motive := fun _ => Option (List Nat)) none (fun a => Option.rec (motive := fun _ => Option (List Nat)) none (fun b => some (appL a b)) (fieldKs f fs (o + a.length))) (f x.type)) (and2 (Nat.beq x.offset o) (bnot (x.name == "_"))) : Option (List Nat)) = some l := h
    rw [bcase] at h'
    split at h'
    · rename_i hb
      rw [and2_eq, beqN, bnot_eq] at hb
      obtain ⟨ho, hn⟩ := hb
      cases ha : f x.type with
      | none => rw [ha] at h'; cases h'
      | some a =>
        rw [ha] at h'
        have h2 : (Option.rec (motive := fun _ => Option (List Nat)) none (fun b => some (appL a b)) (fieldKs f fs (o + a.length)) : Option (List Nat)) = some l := h'
        cases hbb : fieldKs f fs (o + a.length) with
        | none => rw [hbb] at h2; cases h2
        | some b =>
          rw [hbb] at h2
          have : l = a ++ b := by rw [← appL_eq]; exact (Option.some.inj h2).symm
          subst this
          obtain ⟨va, vb, r, p1, p2, p3, p4⟩ := (hf _ _ ha).part w hx.left hy.left
          obtain ⟨r', q1, q2⟩ := fields_ok w hf fs (o + a.length) b hbb hx.right hy.right
          have hn' : x.name ≠ "_" := by simpa using hn
          subst ho
          rw [List.length_append]
          cases r with
          | false =>
            refine ⟨false, ?_, ?_⟩
            · simp [Op.eqFields, hn', Sem.run_bind, p1, p2, p3]
            · rw [same_add]
              exact ⟨fun e => Bool.noConfusion e, fun e => p4.2 e.1⟩
          | true =>
            refine ⟨r', ?_, ?_⟩
            · simp [Op.eqFields, hn', Sem.run_bind, p1, p2, p3, q1]
            · rw [same_add, q2]
              exact ⟨fun e => ⟨p4.1 rfl, e⟩, fun e => e.2⟩
    · cases h'
theorem repO_succ (n : Nat) (a : List Nat) : repO (n + 1) a = a ++ repO n a := appL_eq _ _
theorem items_ok (w : World) {D : Nat} {e : TypeId} {a : List Nat} (h : EqOk P e a D) {xs ys : Array Value} : ∀ (n s : Nat), KAll (repO n a) xs (s * a.length) → KAll (repO n a) ys (s * a.length) →
    ∃ r, (Op.eqItems D e a.length xs ys (List.range' s n)).run P w = .ok r w ∧ (r = true ↔ Same xs ys (s * a.length) (repO n a).length)
  | 0, s, _, _ => ⟨true, by simp [Op.eqItems], ⟨fun _ i hi => absurd hi (Nat.not_lt_zero _), fun _ => rfl⟩⟩
  | n + 1, s, hx, hy => by
    rw [repO_succ] at hx hy
    obtain ⟨va, vb, r, p1, p2, p3, p4⟩ := h.part w hx.left hy.left
    have e1 : s * a.length + a.length = (s + 1) * a.length := by rw [Nat.add_mul, Nat.one_mul]
    obtain ⟨r', q1, q2⟩ := items_ok w h n (s + 1) (by rw [← e1]; exact hx.right) (by rw [← e1]; exact hy.right)
    rw [repO_succ, List.length_append, List.range'_succ]
    cases r with
    | false =>
      refine ⟨false, ?_, ?_⟩
      · simp [Op.eqItems, Sem.run_bind, p1, p2, p3]
      · rw [same_add]
        exact ⟨fun e => Bool.noConfusion e, fun e => p4.2 e.1⟩
    | true =>
      refine ⟨r', ?_, ?_⟩
      · simp [Op.eqItems, Sem.run_bind, p1, p2, p3, q1]
      · rw [same_add, e1, q2]
        exact ⟨fun e => ⟨p4.1 rfl, e⟩, fun e => e.2⟩
theorem infoL_of {t : TypeId} {d : TypeDesc} (h : und P t = some d) : ∃ i, infoL P t = some i := let ⟨_, i, _, h2⟩ := und_some h; ⟨i, h2⟩
theorem eqKs_ok : ∀ (d : Nat) (t : TypeId) (l : List Nat), eqKs P d t = some l → ∀ D, EqOk P t l (d + D) ∧ P.eqGuardType (d + D) t = false
  | 0, t, l, h, D => by cases h
  | d + 1, t, l, h, D => by
    have ih := eqKs_ok d
    obtain ⟨h, hl⟩ := chkO_out (o := (match und P t with
      | some .bool => some [0]
      | some .string => some [1]
      | some (.int q) => some [kc q + 2]
      | some (.struct fs) => Bool.rec (motive := fun _ => Option (List Nat)) none (fieldKs (eqKs P d) fs.toList 0) (bnot (P.stoodInHeld t))
      | some (.array n e) => Option.rec (motive := fun _ => Option (List Nat)) none (fun a => some (repO n a)) (eqKs P d e)
      | _ => none)) h
    rw [show d + 1 + D = (d + D) + 1 by omega]
    cases hu : und P t with
    | none => rw [hu] at h; cases h
    | some ds =>
      have hU := (und_some hu).1
      obtain ⟨i, hi⟩ := infoL_of hu
      rw [hu] at h
      have cell : isAgg P t = false → ∀ c, l = [c] → (∀ w v v', KAt c v → KAt c v' → ∃ r, (Op.equalIn (d + D + 1) t v v').run P w = .ok r w ∧ (r = true ↔ v = v')) → EqOk P t l (d + D + 1) := fun hag c hlc hc =>
        ⟨hl, ⟨_, i, hu, hi⟩, fun _ => ⟨c, hlc, hc⟩, fun e => by rw [hag] at e; cases e⟩
      have hisA : ∀ b : Bool, (match some ds with | some (.struct _) | some (.array ..) => true | _ => false) = b → isAgg P t = b := fun b e => by
        unfold isAgg; rw [hu]; exact e
      cases ds with
      | bool =>
        refine ⟨cell (hisA _ rfl) 0 (Option.some.inj h).symm fun w v v' hv hv' => ?_, by simp [Program.eqGuardType, hU]⟩
        obtain ⟨x, rfl⟩ := hv
        obtain ⟨y, rfl⟩ := hv'
        exact ⟨_, run_equalIn_bool w _ t x y hU, by simp⟩
      | string =>
        refine ⟨cell (hisA _ rfl) 1 (Option.some.inj h).symm fun w v v' hv hv' => ?_, by simp [Program.eqGuardType, hU]⟩
        obtain ⟨x, rfl⟩ := hv
        obtain ⟨y, rfl⟩ := hv'
        exact ⟨_, run_equalIn_string w _ t x y hU, by rw [bytes_eq]; simp⟩
      | int q =>
        refine ⟨cell (hisA _ rfl) (kc q + 2) (Option.some.inj h).symm fun w v v' hv hv' => ?_, by simp [Program.eqGuardType, hU]⟩
        obtain ⟨x, rfl⟩ := hv
        obtain ⟨y, rfl⟩ := hv'
        exact ⟨_, run_equalIn_int w _ t _ q x y hU, by simp⟩
      | struct fs =>
        have h' : (Bool.rec (motive := fun _ => Option (List Nat)) none (fieldKs (eqKs P d) fs.toList 0) (bnot (P.stoodInHeld t)) : Option (List Nat)) = some l := h
        rw [bcase] at h'
        split at h'
        · rename_i hb
          rw [bnot_eq, Bool.not_eq_true'] at hb
          have hfs : P.fieldsOf t = fs := by simp [Program.fieldsOf, hU]
          refine ⟨⟨hl, ⟨_, i, hu, hi⟩, fun e => by rw [hisA true rfl] at e; exact Bool.noConfusion e, fun _ w xs ys hx hy => ?_⟩, ?_⟩
          · rw [run_equalIn_struct w (d + D) t xs ys (by rw [hfs]; exact hU) hb, hfs]
            exact fields_ok w (fun t l h => (ih t l h D).1) fs.toList 0 l h' hx hy
          · have key : ∀ (gs : List Field) (o : Nat) (l : List Nat), fieldKs (eqKs P d) gs o = some l → ∀ f ∈ gs, P.eqGuardType (d + D) f.type = false := by
              intro gs
              induction gs with
              | nil => intro _ _ _ f hf; cases hf
              | cons x gs ihg =>
                intro o l h f hf
                have h' : (Bool.rec (motive := fun _ => Option (List Nat)) none (Option.rec (motive := fun _ => Option (List Nat)) none (fun a => Option.rec (motive := fun _ => Option (List Nat)) none (fun b => some (appL a b)) (fieldKs (eqKs P d) gs (o + a.length))) (eqKs P d x.type)) (and2 (Nat.beq x.offset o) (bnot (x.name == "_"))) : Option (List Nat)) = some l := h
                rw [bcase] at h'
                split at h'
                · cases ha : eqKs P d x.type with
                  | none => rw [ha] at h'; cases h'
                  | some a =>
                    rw [ha] at h'
                    have h2 : (Option.rec (motive := fun _ => Option (List Nat)) none (fun b => some (appL a b)) (fieldKs (eqKs P d) gs (o + a.length)) : Option (List Nat)) = some l := h'
                    cases hbb : fieldKs (eqKs P d) gs (o + a.length) with
                    | none => rw [hbb] at h2; cases h2
                    | some b =>
                      rcases List.mem_cons.1 hf with rfl | hf
                      · exact (ih _ _ ha D).2
                      · exact ihg _ _ hbb f hf
                · cases h'
            simp only [Program.eqGuardType, hU]
            rw [Array.any_eq_false]
            intro j hj
            have := key fs.toList 0 l h' fs[j] (by simp)
            simp [this]
        · cases h'
      | array n e =>
        have h' : (Option.rec (motive := fun _ => Option (List Nat)) none (fun a => some (repO n a)) (eqKs P d e) : Option (List Nat)) = some l := h
        cases ha : eqKs P d e with
        | none => rw [ha] at h'; cases h'
        | some a =>
          rw [ha] at h'
          have : l = repO n a := (Option.some.inj h').symm
          subst this
          obtain ⟨hea, hg⟩ := ih e a ha D
          obtain ⟨he1, ⟨d', ie, he2, he3⟩, _, _⟩ := hea
          refine ⟨⟨hl, ⟨_, i, hu, hi⟩, fun e => by rw [hisA true rfl] at e; exact Bool.noConfusion e, fun _ w xs ys hx hy => ?_⟩, ?_⟩
          · rw [run_equalIn_array w (d + D) xs ys hU (infoL_some he3)]
            have hc : P.cellsOf e = a.length := by rw [he1, szOf_info he3]; simp [Program.cellsOf, infoL_some he3]
            rw [hc, List.range_eq_range']
            have := items_ok w (ih e a ha D).1 (xs := xs) (ys := ys) n 0 (by rw [Nat.zero_mul]; exact hx) (by rw [Nat.zero_mul]; exact hy)
            rw [Nat.zero_mul] at this
            exact this
          · simp only [Program.eqGuardType, hU]; exact hg
      | _ => cases h
end
end Go.Proofs.YtlffjnddiiojnaaGreatDoor.Ev

/- Operations of two values. -/
namespace Go.Proofs.YtlffjnddiiojnaaGreatDoor.Ev
/-- Nil or not, of a kind. -/
def NilRel (q : Nat) (x : Bool) (u : Value) : Prop := match q, x with
  | 0, true => u = .pointer none
  | 0, false => ∃ a, u = .pointer (some a)
  | 1, true => u = .slice none 0 0
  | 1, false => ∃ a n c, u = .slice (some a) n c
  | 2, true => u = .nilFunc
  | 2, false => ∃ f a b, u = .func f a b
  | 3, true => u = .map none
  | 3, false => ∃ m, u = .map (some m)
  | _, true => u = .nilIface
  | _, false => ∃ t v, u = .iface t v
section
variable {R : Res} (hR : R ≠ .fail)
include hR
theorem nilK_out {q : Nat} (hq : q < 5) {v : AV} {k : Bool → Res} (g : nilK q v k = R) : ∃ x, k x = R ∧ ∀ {w : World} {F : Nat → Prop} {μ : Mu} {u : Value}, CRel w F μ v u → NilRel q x u := by
  cases v with
  | int => exact fail_out hR g
  | bool => exact fail_out hR g
  | str => exact fail_out hR g
  | ptr b o =>
    obtain ⟨h, g2⟩ := must_out hR g
    rw [beqN] at h; subst h
    exact ⟨false, g2, fun hc => by obtain ⟨m, _, rfl⟩ := inv_ptr hc; exact ⟨_, rfl⟩⟩
  | ms b o n z =>
    obtain ⟨h, g2⟩ := must_out hR g
    rw [beqN] at h; subst h
    exact ⟨false, g2, fun hc => by cases hc <;> exact ⟨_, _, _, rfl⟩⟩
  | vs t o n z =>
    obtain ⟨h, g2⟩ := must_out hR g
    rw [beqN] at h; subst h
    exact ⟨false, g2, fun hc => by cases hc <;> exact ⟨_, _, _, rfl⟩⟩
  | agg => exact fail_out hR g
  | tup => exact fail_out hR g
  | x i t a b c =>
    have g' : when (Nat.beq i (Nat.add q 7)) (k true) (must (nilX q i) (k false)) = R := g
    rcases when_out hR g' with ⟨h, g2⟩ | ⟨_, g2⟩
    · rw [beqN] at h; subst h
      refine ⟨true, g2, fun hc => ?_⟩
      match q, hq with
      | 0, _ => cases hc; rfl
      | 1, _ => cases hc; rfl
      | 2, _ => cases hc; rfl
      | 3, _ => cases hc; rfl
      | 4, _ => cases hc; rfl
    · obtain ⟨h, g2⟩ := must_out hR g2
      refine ⟨false, g2, fun hc => ?_⟩
      match q, hq with
      | 0, _ =>
        have h : Nat.beq i 1 = true := h
        rw [beqN] at h; subst h; cases hc; exact ⟨_, rfl⟩
      | 1, _ =>
        have h : Nat.beq i 6 = true := h
        rw [beqN] at h; subst h; cases hc; exact ⟨_, _, _, rfl⟩
      | 2, _ =>
        have h : (Nat.beq i 3 || Nat.beq i 5) = true := h
        rw [Bool.or_eq_true, beqN, beqN] at h
        rcases h with rfl | rfl <;> cases hc <;> exact ⟨_, _, _, rfl⟩
      | 3, _ =>
        have h : Nat.beq i 4 = true := h
        rw [beqN] at h; subst h; cases hc; exact ⟨_, rfl⟩
      | 4, _ =>
        have h : Nat.beq i 12 = true := h
        rw [beqN] at h; subst h; cases hc; exact ⟨_, _, rfl⟩
end
section
variable {P : Program} {R : Res} (hR : R ≠ .fail)
/-- No two values that the guard of comparisons looks at. -/
theorem run_eqGuard {op : BinOp} {t : TypeId} {x y : Operand} {u v : Value} (w : World) (h1 : ¬ (u = .nilIface ∧ v = .nilIface)) (h2 : ∀ cs ds, u = .agg cs → v = .agg ds → P.eqGuardType P.depth t = false) : (eqGuard op t x y u v).run P w = .ok () w := by
  unfold eqGuard
  cases op <;> first
    | rfl
    | (simp only [Bool.not_true, Bool.false_eq_true, if_false]
       split
       · exact absurd ⟨rfl, rfl⟩ h1
       · rename_i cs ds
         simp [h2 cs ds rfl rfl]
       · rfl)
/-- What is done for an operation of two values. -/
def bin2 (op : BinOp) (t : TypeId) (x y : Operand) (u v : Value) : Sem Value := do eqGuard op t x y u v; binOp op t u v
theorem bin2_run {op : BinOp} {t : TypeId} {x y : Operand} {u v : Value} {w : World} (h : (eqGuard op t x y u v).run P w = .ok () w) : (bin2 op t x y u v).run P w = (binOp op t u v).run P w := by
  unfold bin2; rw [Sem.run_bind, h]; rfl
/-- eql and neq of values that equal tells apart. -/
theorem eql_run {t : TypeId} {u v : Value} {w : World} {r : Bool} (h : (Op.equal t u v).run P w = .ok r w) (h1 : ∀ k n, u ≠ .int k n) (h2 : ∀ s, u ≠ .string s) (h3 : ∀ k n, u ≠ .float k n) (h4 : ∀ k n m, u ≠ .complex k n m) :
    (binOp .eql t u v).run P w = .ok (.bool r) w ∧ (binOp .neq t u v).run P w = .ok (.bool (!r)) w := by
  constructor <;> unfold binOp <;> split <;> first | (exact absurd rfl (h1 _ _)) | (exact absurd rfl (h2 _)) | (exact absurd rfl (h3 _ _)) | (exact absurd rfl (h4 _ _ _)) | (simp [h, Sem.run_bind]; done) | simp_all
theorem depth_big (P : Program) : ∃ D, P.depth = 20 + D := ⟨P.depth - 20, by unfold Program.depth Made.depth; omega⟩
theorem eqn_ptr (D : Nat) {t : TypeId} {e : TypeId} (hU : P.underlying t = some (.pointer e)) {w : World} {x y : Bool} {u v : Value} (hxy : x = true ∨ y = true) (hx : NilRel 0 x u) (hy : NilRel 0 y v) : (Op.equalIn (D + 1) t u v).run P w = .ok (x && y) w := by
  cases x <;> cases y <;> simp only [NilRel] at hx hy
  · simp at hxy
  · obtain ⟨_, rfl⟩ := hx; subst hy
    simp [Op.equalIn, run_underlying hU]
  · obtain ⟨_, rfl⟩ := hy; subst hx
    simp [Op.equalIn, run_underlying hU]
  · subst hx; subst hy
    simp [Op.equalIn, run_underlying hU]
theorem nils_ptr (x : Bool) (u : Value) (hx : NilRel 0 x u) : ((∀ k n, u ≠ .int k n) ∧ (∀ s, u ≠ .string s) ∧ (∀ k n, u ≠ .float k n) ∧ (∀ k n m, u ≠ .complex k n m)) ∧ u ≠ .nilIface ∧ ∀ cs, u ≠ .agg cs := by
  cases x <;> simp only [NilRel] at hx
  · obtain ⟨_, rfl⟩ := hx; simp
  · subst hx; simp
theorem eqn_slice (D : Nat) {t : TypeId} {e : TypeId} (hU : P.underlying t = some (.slice e)) {w : World} {x y : Bool} {u v : Value} (hxy : x = true ∨ y = true) (hx : NilRel 1 x u) (hy : NilRel 1 y v) : (Op.equalIn (D + 1) t u v).run P w = .ok (x && y) w := by
  cases x <;> cases y <;> simp only [NilRel] at hx hy
  · simp at hxy
  · obtain ⟨_, _, _, rfl⟩ := hx; subst hy
    simp [Op.equalIn, run_underlying hU]
  · obtain ⟨_, _, _, rfl⟩ := hy; subst hx
    simp [Op.equalIn, run_underlying hU]
  · subst hx; subst hy
    simp [Op.equalIn, run_underlying hU]
theorem nils_slice (x : Bool) (u : Value) (hx : NilRel 1 x u) : ((∀ k n, u ≠ .int k n) ∧ (∀ s, u ≠ .string s) ∧ (∀ k n, u ≠ .float k n) ∧ (∀ k n m, u ≠ .complex k n m)) ∧ u ≠ .nilIface ∧ ∀ cs, u ≠ .agg cs := by
  cases x <;> simp only [NilRel] at hx
  · obtain ⟨_, _, _, rfl⟩ := hx; simp
  · subst hx; simp
theorem eqn_func (D : Nat) {t : TypeId} {e e1 e2} (hU : P.underlying t = some (.func e e1 e2)) {w : World} {x y : Bool} {u v : Value} (hxy : x = true ∨ y = true) (hx : NilRel 2 x u) (hy : NilRel 2 y v) : (Op.equalIn (D + 1) t u v).run P w = .ok (x && y) w := by
  cases x <;> cases y <;> simp only [NilRel] at hx hy
  · simp at hxy
  · obtain ⟨_, _, _, rfl⟩ := hx; subst hy
    simp [Op.equalIn, run_underlying hU]
  · obtain ⟨_, _, _, rfl⟩ := hy; subst hx
    simp [Op.equalIn, run_underlying hU]
  · subst hx; subst hy
    simp [Op.equalIn, run_underlying hU]
theorem nils_func (x : Bool) (u : Value) (hx : NilRel 2 x u) : ((∀ k n, u ≠ .int k n) ∧ (∀ s, u ≠ .string s) ∧ (∀ k n, u ≠ .float k n) ∧ (∀ k n m, u ≠ .complex k n m)) ∧ u ≠ .nilIface ∧ ∀ cs, u ≠ .agg cs := by
  cases x <;> simp only [NilRel] at hx
  · obtain ⟨_, _, _, rfl⟩ := hx; simp
  · subst hx; simp
theorem eqn_map (D : Nat) {t : TypeId} {e e1 : TypeId} (hU : P.underlying t = some (.map e e1)) {w : World} {x y : Bool} {u v : Value} (hxy : x = true ∨ y = true) (hx : NilRel 3 x u) (hy : NilRel 3 y v) : (Op.equalIn (D + 1) t u v).run P w = .ok (x && y) w := by
  cases x <;> cases y <;> simp only [NilRel] at hx hy
  · simp at hxy
  · obtain ⟨_, rfl⟩ := hx; subst hy
    simp [Op.equalIn, run_underlying hU]
  · obtain ⟨_, rfl⟩ := hy; subst hx
    simp [Op.equalIn, run_underlying hU]
  · subst hx; subst hy
    simp [Op.equalIn, run_underlying hU]
theorem nils_map (x : Bool) (u : Value) (hx : NilRel 3 x u) : ((∀ k n, u ≠ .int k n) ∧ (∀ s, u ≠ .string s) ∧ (∀ k n, u ≠ .float k n) ∧ (∀ k n m, u ≠ .complex k n m)) ∧ u ≠ .nilIface ∧ ∀ cs, u ≠ .agg cs := by
  cases x <;> simp only [NilRel] at hx
  · obtain ⟨_, rfl⟩ := hx; simp
  · subst hx; simp
def EqRes (P : Program) (R : Res) (t : TypeId) (a b : AV) (k : Bool → Res) : Prop :=
  ∃ r, k r = R ∧ ∀ {w : World} {F : Nat → Prop} {μ : Mu} {u v : Value}, CRel w F μ a u → CRel w F μ b v → (Op.equal t u v).run P w = .ok r w ∧ ((∀ k n, u ≠ .int k n) ∧ (∀ s, u ≠ .string s) ∧ (∀ k n, u ≠ .float k n) ∧ (∀ k n m, u ≠ .complex k n m)) ∧
      ¬ (u = .nilIface ∧ v = .nilIface) ∧ ∀ cs ds, u = .agg cs → v = .agg ds → P.eqGuardType P.depth t = false
include hR in
theorem eqV_out {t : TypeId} {a b : AV} {k : Bool → Res} (g : eqV (eqPlan P t) a b k = R) :
    EqRes P R t a b k := by
  have nil : ∀ q, q < 4 → eqV (.nil q) a b k = R → (∀ {w : World} {x y : Bool} {u v : Value}, (x = true ∨ y = true) → NilRel q x u → NilRel q y v → (Op.equal t u v).run P w = .ok (x && y) w) →
      (∀ x u, NilRel q x u → ((∀ k n, u ≠ .int k n) ∧ (∀ s, u ≠ .string s) ∧ (∀ k n, u ≠ .float k n) ∧ (∀ k n m, u ≠ .complex k n m)) ∧ u ≠ .nilIface ∧ ∀ cs, u ≠ .agg cs) →
      EqRes P R t a b k := by
    intro q hq g he hs
    obtain ⟨x, g1, h1⟩ := nilK_out hR (Nat.lt_succ_of_lt hq) (show nilK q a (fun x => nilK q b fun y => (Bool.rec (motive := fun _ => Res) (must y (k false)) (forceB y k) x : Res)) = R from g)
    obtain ⟨y, g2, h2⟩ := nilK_out hR (Nat.lt_succ_of_lt hq) g1
    have fin : ∀ r, r = (x && y) → (x = true ∨ y = true) → k r = R → EqRes P R t a b k := fun r hr hxy g => ⟨r, g, fun {w F μ u v} ha hb => by
      have hn := hs x u (h1 ha)
      exact ⟨hr ▸ he hxy (h1 ha) (h2 hb), hn.1, fun e => hn.2.1 e.1, fun cs ds e => absurd e (hn.2.2 cs)⟩⟩
    cases x with
    | true =>
      have g2' : forceB y k = R := g2
      rw [forceB_eq] at g2'
      exact fin y (by simp) (.inl rfl) g2'
    | false =>
      obtain ⟨hy, g3⟩ := must_out hR (show must y (k false) = R from g2)
      subst hy
      exact fin false rfl (.inr rfl) g3
  unfold eqPlan at g
  cases hu : und P t with
  | none => rw [hu] at g; exact fail_out hR g
  | some d =>
    have hU := (und_some hu).1
    rw [hu] at g
    have aggs : (Option.rec (motive := fun _ => EqP) .no (fun l => .cells l) (eqKs P 20 t) : EqP) = .no ∨ (∃ l, eqKs P 20 t = some l ∧ (Option.rec (motive := fun _ => EqP) .no (fun l => .cells l) (eqKs P 20 t) : EqP) = .cells l) := by
      cases eqKs P 20 t with
      | none => exact .inl rfl
      | some l => exact .inr ⟨l, rfl, rfl⟩
    have agg : isAgg P t = true → eqV (Option.rec (motive := fun _ => EqP) .no (fun l => .cells l) (eqKs P 20 t)) a b k = R → EqRes P R t a b k := fun hag g => by
      rcases aggs with e | ⟨l, hl, e⟩
      · rw [e] at g; exact fail_out hR g
      · rw [e] at g
        obtain ⟨tl, m, rfl, g1⟩ := onAgg_out hR g
        obtain ⟨ul, n, rfl, g2⟩ := onAgg_out hR g1
        obtain ⟨hm, g3⟩ := must_out hR g2
        obtain ⟨hn, g4⟩ := must_out hR g3
        rw [beqN] at hm hn
        obtain ⟨r, g5, h5⟩ := eqs_out hR g4
        refine ⟨r, g5, fun {w F μ u v} ha hb => ?_⟩
        cases ha with
        | @agg _ _ _ cs us hs hu1 h1 h =>
          cases hb with
          | @agg _ _ _ ds vs hs' hu1' h1' h' =>
            obtain ⟨q1, q2⟩ := h5 (us := us) (vs := vs) fun i hi => ⟨h i (by omega), h' i (by omega)⟩
            have hk : KAll l cs 0 := fun i c hc => ⟨us i, by rw [Nat.zero_add]; exact hu1 i (by have := (List.getElem?_eq_some_iff.1 hc).1; omega), (q1 i c hc).1⟩
            have hk' : KAll l ds 0 := fun i c hc => ⟨vs i, by rw [Nat.zero_add]; exact hu1' i (by have := (List.getElem?_eq_some_iff.1 hc).1; omega), (q1 i c hc).2⟩
            obtain ⟨r', p1, p2⟩ := (eqKs_ok 20 t l hl 9980).1.2.2.2 hag w cs ds hk hk'
            have hrr : r' = r := by
              have : r' = true ↔ r = true := by
                rw [p2, q2]
                refine ⟨fun e i hi => ?_, fun e i hi => ?_⟩
                · have := e i hi
                  rw [Nat.zero_add, hu1 i (by omega), hu1' i (by omega)] at this
                  exact Option.some.inj this
                · rw [Nat.zero_add, hu1 i (by omega), hu1' i (by omega), e i hi]
              cases r <;> cases r' <;> simp_all
            subst hrr
            obtain ⟨D, hD⟩ := depth_big P
            exact ⟨p1, ⟨fun _ _ => by simp, fun _ => by simp, fun _ _ => by simp, fun _ _ _ => by simp⟩, fun e => by simp at e, fun _ _ _ _ => by rw [hD]; exact (eqKs_ok 20 t l hl D).2⟩
    cases d with
    | bool =>
      obtain ⟨r, g1, h1⟩ := cellEq_out (c := 0) hR (show cellEq 0 a b k = R from g)
      refine ⟨r, g1, fun {w F μ u v} ha hb => ?_⟩
      obtain ⟨⟨x, rfl⟩, ⟨y, rfl⟩, h3⟩ := h1 ha hb
      refine ⟨?_, ⟨fun _ _ => by simp, fun _ => by simp, fun _ _ => by simp, fun _ _ _ => by simp⟩, fun e => by simp at e, fun _ _ e => by simp at e⟩
      have := run_equalIn_bool w 9999 t x y hU
      have e : (x == y) = r := by
        cases r <;> simp_all
      rw [e] at this; exact this
    | pointer e => exact nil 0 (by omega) g (fun hxy hx hy => eqn_ptr 9999 hU hxy hx hy) nils_ptr
    | slice e => exact nil 1 (by omega) g (fun hxy hx hy => eqn_slice 9999 hU hxy hx hy) nils_slice
    | func a b c => exact nil 2 (by omega) g (fun hxy hx hy => eqn_func 9999 hU hxy hx hy) nils_func
    | map a b => exact nil 3 (by omega) g (fun hxy hx hy => eqn_map 9999 hU hxy hx hy) nils_map
    | struct fs => exact agg (by unfold isAgg; rw [hu]) g
    | array n e => exact agg (by unfold isAgg; rw [hu]) g
    | _ => exact fail_out hR g
include hR in
theorem obin_out {t : TypeId} {op : BinOp} {x y : Operand} {a b : AV} {k : AV → Res} (g : (obin (eqPlan P t) op).f a b k = R) : ∃ v, k v = R ∧ Pure2 P (bin2 op t x y) a b v := by
  have fin : ∀ (s : Bool → Bool), (op = .eql ∧ s = id ∨ op = .neq ∧ s = (!·)) → (eqV (eqPlan P t) a b fun r => k (.bool (s r))) = R → ∃ v, k v = R ∧ Pure2 P (bin2 op t x y) a b v := fun s hs g => by
    obtain ⟨r, g1, h⟩ := eqV_out hR g
    refine ⟨_, g1, fun {w F μ u v} ha hb => ?_⟩
    obtain ⟨h1, ⟨h2, h3, h4, h5⟩, h6, h7⟩ := h ha hb
    obtain ⟨e1, e2⟩ := eql_run h1 h2 h3 h4 h5
    rw [bin2_run (run_eqGuard w h6 h7)]
    rcases hs with ⟨rfl, rfl⟩ | ⟨rfl, rfl⟩
    · exact ⟨_, e1, .bool _⟩
    · exact ⟨_, e2, .bool _⟩
  cases op with
  | eql => exact fin id (.inl ⟨rfl, rfl⟩) g
  | neq => exact fin (!·) (.inr ⟨rfl, rfl⟩) (by
      have e : (fun r : Bool => k (.bool (!r))) = fun r => k (.bool (bnot r)) := funext fun r => by rw [bnot_eq]
      rw [e]; exact g)
  | _ => exact fail_out hR g
theorem isIface_out {P : Program} {t : TypeId} (h : isIface P t = true) : ∃ ms, P.underlying t = some (.interface ms) := by
  unfold isIface at h
  split at h
  · rename_i ms hu; exact ⟨ms, (und_some hu).1⟩
  · cases h
theorem eqn_iface (D : Nat) {P : Program} {t : TypeId} {ms : Array (String × TypeId)} (hU : P.underlying t = some (.interface ms)) {b : Bool} {u : Value} (hu : NilRel 4 b u) (w : World) : (Op.equalIn (D + 1) t u .nilIface).run P w = .ok b w := by
  cases b with
  | true =>
    have hu' : u = .nilIface := hu
    subst hu'
    simp [Op.equalIn, run_underlying hU]
  | false =>
    obtain ⟨tt, v, rfl⟩ : ∃ tt v, u = .iface tt v := hu
    simp [Op.equalIn, run_underlying hU]
/-- A value of an interface, held against nil. -/
theorem bin_nil {t : TypeId} {x y : Operand} (hi : isIface P t = true) (hy : isNilC y = true) {b : Bool} {u : Value} (hu : NilRel 4 b u) (w : World) :
    y = .const .nilIface ∧ (bin2 .eql t x y u .nilIface).run P w = .ok (.bool b) w ∧ (bin2 .neq t x y u .nilIface).run P w = .ok (.bool (!b)) w := by
  obtain ⟨ms, hU⟩ := isIface_out hi
  have e : y = .const .nilIface := by
    unfold isNilC at hy
    split at hy
    · rfl
    · cases hy
  subst e
  have hg : ∀ op : BinOp, (eqGuard op t x (.const .nilIface) u .nilIface).run P w = .ok () w := fun op => by
    unfold eqGuard
    cases b with
    | true =>
      have hu' : u = .nilIface := hu
      subst hu'
      cases op <;> simp
    | false =>
      obtain ⟨tt, v, rfl⟩ : ∃ tt v, u = .iface tt v := hu
      cases op <;> simp
  have he : (Op.equal t u .nilIface).run P w = .ok b w := eqn_iface 9999 hU hu w
  have hno : (∀ k n, u ≠ .int k n) ∧ (∀ s, u ≠ .string s) ∧ (∀ k n, u ≠ .float k n) ∧ ∀ k n m, u ≠ .complex k n m := by
    cases b with
    | true =>
      have hu' : u = .nilIface := hu
      subst hu'; simp
    | false =>
      obtain ⟨tt, v, rfl⟩ : ∃ tt v, u = .iface tt v := hu
      simp
  obtain ⟨e1, e2⟩ := eql_run he hno.1 hno.2.1 hno.2.2.1 hno.2.2.2
  exact ⟨rfl, by rw [bin2_run (hg _)]; exact e1, by rw [bin2_run (hg _)]; exact e2⟩
include hR in
theorem bin_out {t : TypeId} {op : BinOp} {x y : Operand} {a b : AV} {k : AV → Res} (g : (match und P t with
    | some (.int ik) => ibinOf op (kc ik)
    | some .string => sbin op
    | _ => obin (eqPlan P t) op : BK).f a b k = R) : ∃ v, k v = R ∧ Pure2 P (bin2 op t x y) a b v := by
  split at g
  · rename_i ik _
    obtain ⟨v, h1, g1⟩ := ibin_out hR ik t g
    have hint : ∃ i n, a = .int i n := by
      cases ik <;> cases op <;> exact (let ⟨i, n, h, _⟩ := onInt_out hR g; ⟨i, n, h⟩)
    obtain ⟨i, n, rfl⟩ := hint
    refine ⟨v, g1, fun {w F μ u u'} ha hb => ?_⟩
    have ha' := inv_int ha
    rw [bin2_run (run_eqGuard w (fun e => by rw [ha'.2] at e; simp at e) (fun cs ds e => by rw [ha'.2] at e; cases e))]
    exact h1 ha hb
  · obtain ⟨v, h1, g1⟩ := sbin_out hR t g
    have hstr : ∃ i n, a = .str i n := by
      cases op <;> first | exact (let ⟨i, n, h, _⟩ := onStr_out hR g; ⟨i, n, h⟩) | exact fail_out hR g
    obtain ⟨i, n, rfl⟩ := hstr
    refine ⟨v, g1, fun {w F μ u u'} ha hb => ?_⟩
    obtain ⟨s, hs, _⟩ := inv_str ha
    rw [bin2_run (run_eqGuard w (fun e => by rw [hs] at e; simp at e) (fun cs ds e => by rw [hs] at e; cases e))]
    exact h1 ha hb
  · exact obin_out hR g
end
end Go.Proofs.YtlffjnddiiojnaaGreatDoor.Ev

/- More operations: complement, max, slices of arrays, clear, conversions of slices to their own type. -/
namespace Go.Proofs.YtlffjnddiiojnaaGreatDoor.Ev
section
variable {P : Program} {R : Res} (hR : R ≠ .fail)
theorem bv_ones (i : Nat) : BitVec.ofInt (kd i).bits (if (kd i).signed then -1 else (kd i).max) = BitVec.allOnes (kd i).bits := by
  generalize kd i = k
  cases k <;> decide
include hR in
theorem cpl_out {x : AV} {k : AV → Res} (g : (x.onInt fun i n => intK i (Nat.sub (Nat.sub (md i) 1) n) k) = R) : ∃ v, k v = R ∧ Pure1 P (Op.unary .xor) x v := by
  obtain ⟨i, n, rfl, g2⟩ := onInt_out hR g
  rw [intK_eq] at g2
  refine ⟨_, g2, fun {w F μ u} ha => ?_⟩
  obtain ⟨hn, rfl⟩ := inv_int ha
  have hx : (BitVec.allOnes (kd i).bits ^^^ BitVec.ofInt (kd i).bits (T i n)).toNat = md i - 1 - n := by
    rw [BitVec.allOnes_xor, BitVec.toNat_not, T_bv i n hn, md_pow, wd_bits]
  obtain ⟨h1, h2⟩ := bits_val hR i _ _ hx
  refine ⟨_, ?_, rel_int h1⟩
  simp only [Op.unary, Op.intBits, bv_ones, Sem.run_pure]
  exact congrArg (Result.ok · w) h2
include hR in
theorem max_out {x y : AV} {k : AV → Res} (ts : Array TypeId) (ty : TypeId) (g : (x.onInt fun i m => y.onInt fun j n => must (Nat.beq i j) (when (Nat.ble (Nat.mod (Nat.add m (hf i)) (md i)) (Nat.mod (Nat.add n (hf i)) (md i))) (k (.int i n)) (k (.int i m)))) = R) :
    ∃ v, k v = R ∧ Pure2 P (fun u u' => Builtin.max_ ts ty #[u, u']) x y v := by
  obtain ⟨i, m, rfl, g⟩ := onInt_out hR g
  obtain ⟨j, n, rfl, g1⟩ := onInt_out hR (show (y.onInt fun j n => must (Nat.beq i j) (when (Nat.ble (Nat.mod (Nat.add m (hf i)) (md i)) (Nat.mod (Nat.add n (hf i)) (md i))) (k (.int i n)) (k (.int i m)))) = R from g)
  obtain ⟨hij, g2⟩ := must_out hR g1
  rw [beqN] at hij
  have hrun : ∀ (w : World) (a c : Int) (q q' : IntKind), (Builtin.max_ ts ty #[.int q a, .int q' c]).run P w = .ok (.int q (if c > a then c else a)) w := fun w a c q q' => by
    simp [Builtin.max_, Builtin.max2]
  rcases when_out hR g2 with ⟨hc, g3⟩ | ⟨hc, g3⟩
  · rw [bleN] at hc
    refine ⟨_, g3, fun {w F μ u u'} ha hb => ?_⟩
    obtain ⟨h1, rfl⟩ := inv_int ha
    obtain ⟨h2, rfl⟩ := inv_int hb
    rw [← hij] at h2 ⊢
    refine ⟨_, hrun w _ _ _ _, ?_⟩
    have hle := (T_le i m n h1 h2).2 hc
    by_cases e : T i n > T i m
    · rw [if_pos e]; exact rel_int h2
    · rw [if_neg e]
      have : T i m = T i n := by omega
      rw [this]; exact rel_int h2
  · have hc' : ¬ (m + hf i) % md i ≤ (n + hf i) % md i := fun e => by
      have e2 : Nat.ble (Nat.mod (Nat.add m (hf i)) (md i)) (Nat.mod (Nat.add n (hf i)) (md i)) = true := ble_true e
      rw [e2] at hc; cases hc
    refine ⟨_, g3, fun {w F μ u u'} ha hb => ?_⟩
    obtain ⟨h1, rfl⟩ := inv_int ha
    obtain ⟨h2, rfl⟩ := inv_int hb
    rw [← hij] at h2 ⊢
    refine ⟨_, hrun w _ _ _ _, ?_⟩
    have := mt (T_le i m n h1 h2).1 hc'
    rw [if_neg (by omega)]; exact rel_int h1
end
section
variable {V : Env} {M : Mem} (ok : MemOk M) {R : Res} (hR : R ≠ .fail)
include ok hR in
/-- A slice of an array in memory. -/
theorem sliceArr_out {t e : TypeId} {n : Nat} (ht : und V.P t = some (.array n e)) {z : Nat} (hsz : szOf V.P e = z) (hz : 1 ≤ z) {b o : Nat} {lo hi mx : Option AV} {hp : Hp} {k : AV → Res}
    (g : (hp.use M b (Nat.add o (Nat.mul n z)) fun _ _ _ _ _ => sliceK z (.ms b o n z) lo hi mx k) = R) :
    ∃ v, k v = R ∧ SpotLive hp (.ptr b o) ∧ ∀ {w : World} {F : Nat → Prop} {μ : Mu} {u : Value} {a bb c : Option Value}, CRel w F μ (.ptr b o) u → OptRel w F μ lo a → OptRel w F μ hi bb → OptRel w F μ mx c → ReadOk V w F μ hp (.ptr b o) →
      ∃ r, (Instr.sliceAt t u a bb c).run V.P w = .ok r w ∧ CRel w F μ v r := by
  obtain ⟨rw', fl, z', s, tr, hB, hs, g1⟩ := huse_out ok hR g
  obtain ⟨_, g2⟩ := must_out hR (show must (Nat.beq z z) (bounds lo hi mx n fun l h e => when e (k (.x 6 .lf 0 0 0)) (forceN (Nat.add o (Nat.mul l z)) fun o => forceN (Nat.sub h l) fun n => k (.ms b o n z))) = R from g1)
  obtain ⟨l, h, e', m, g3, hl, hh, h1, h2, b1, b2, b3, b4⟩ := bounds_out hR g2
  have hs : o + n * z ≤ s := hs
  obtain ⟨i, _, hi', hsi⟩ := szOf_pos (P := V.P) (t := e) (by omega)
  have hiz : i.size = z := by omega
  have hm : mx.isSome = true → h ≤ m ∧ m ≤ n := fun e => ⟨(h1 e).1, (h1 e).2.1⟩
  have live : SpotLive hp (.ptr b o) := fun c hc => by cases hc; rw [hB]; trivial
  have hsl : ∀ {w : World} {F : Nat → Prop} {μ : Mu} {ad : Addr} {a bb c : Option Value}, OptRel w F μ lo a → OptRel w F μ hi bb → OptRel w F μ mx c →
      (Instr.sliceAt t (.pointer (some ad)) a bb c).run V.P w = .ok (.slice (some (if (if mx.isSome = true then m else n) = l then ad else ad.add (l * i.size))) (h - l) ((if mx.isSome = true then m else n) - l)) w := fun {w F μ ad a bb c} q1 q2 q3 => by
    have hb := run_bounds (P := V.P) (s := false) q1 q2 q3 b1 b2 b3 b4 hl hh hm (Nat.le_refl n)
    simp [Instr.sliceAt, Instr.sureAddr, run_underlying (und_some ht).1, hb, sizeOf, typeInfo, hi']
  have size : ∀ {w : World} {F : Nat → Prop} {μ : Mu} {mp : Mp}, μ b = some mp → ReadOk V w F μ hp (.ptr b o) → n * z = 0 ∨ mp.base + o + n * z ≤ mp.size := fun {w F μ mp} hmu hro => by
    have hr := hro b rfl
    rw [hB] at hr
    obtain ⟨m', c, T, fz, p1, p2, p3, p4, _⟩ := hr
    rw [hmu] at p1; cases p1
    by_cases e0 : n * z = 0
    · exact .inl e0
    · obtain ⟨u, hu, _⟩ := p4 (o + n * z - 1) (by omega)
      have := (Array.getElem?_eq_some_iff.1 hu).1
      exact .inr (by omega)
  rcases when_out hR g3 with ⟨he, g4⟩ | ⟨he, g4⟩
  · have hs : mx.isSome = true := by cases mx with
      | none => rw [h2 rfl] at he; cases he
      | some _ => rfl
    have hml : m = l := by rw [← beqN, ← (h1 hs).2.2]; exact he
    refine ⟨_, g4, live, fun {w F μ u a bb c} ha q1 q2 q3 _ => ?_⟩
    obtain ⟨mp, hmu, rfl⟩ := inv_ptr ha
    refine ⟨_, hsl q1 q2 q3, ?_⟩
    have := (h1 hs).1
    rw [if_pos hs, if_pos hml, show h - l = 0 by omega, show m - l = 0 by omega]
    exact .emp
  · rw [forceN_eq, forceN_eq] at g4
    refine ⟨_, g4, live, fun {w F μ u a bb c} ha q1 q2 q3 hro => ?_⟩
    obtain ⟨mp, hmu, rfl⟩ := inv_ptr ha
    refine ⟨_, hsl q1 q2 q3, ?_⟩
    have hM : h ≤ (if mx.isSome = true then m else n) ∧ (if mx.isSome = true then m else n) ≤ n := by
      by_cases hs : mx.isSome = true
      · rw [if_pos hs]; have := hm hs; omega
      · rw [if_neg hs]; omega
    generalize (if mx.isSome = true then m else n) = N at *
    by_cases e1 : N = l
    · rw [if_pos e1, show h - l = 0 by omega, show N - l = 0 by omega]
      show CRel w F μ (.ms b (o + l * z) (h - l) z) _
      rw [show h - l = 0 by omega]; exact .ms0
    · rw [if_neg e1]
      show CRel w F μ (.ms b (o + l * z) (h - l) z) (.slice (some ((⟨mp.blk, mp.base + o, none⟩ : Addr).add (l * i.size))) (h - l) (N - l))
      rw [Addr.add_mid, Nat.add_assoc, hiz]
      refine .ms hmu (by omega) ?_
      have h3 : (N - l) * z + l * z = N * z := by rw [← Nat.add_mul]; congr 1; omega
      have h4 : N * z ≤ n * z := Nat.mul_le_mul_right z hM.2
      rcases size hmu hro with h5 | h5
      · have : n = 0 := by
          rcases Nat.mul_eq_zero.1 h5 with h | h
          · exact h
          · omega
        omega
      · omega
include hR in
/-- The same of an array that nobody writes. -/
theorem sliceArrV_out {t e : TypeId} {n : Nat} (ht : und V.P t = some (.array n e)) {z : Nat} (hsz : szOf V.P e = z) (hz : 1 ≤ z) {tt : Row} {o cc y : Nat} {lo hi mx : Option AV} {k : AV → Res}
    (g : (must (Nat.beq y z) (must (Nat.beq (Nat.mod o z) 0) (must (Nat.ble (Nat.mul n z) cc) (sliceK z (.vs tt (Nat.div o z) n z) lo hi mx k)))) = R) :
    ∃ v, k v = R ∧ PureS V.P (Instr.sliceAt t) (.x 1 tt o cc y) lo hi mx v := by
  obtain ⟨hy, g1⟩ := must_out hR g
  obtain ⟨ho, g1⟩ := must_out hR g1
  obtain ⟨hc, g1⟩ := must_out hR g1
  rw [beqN] at hy ho
  rw [bleN] at hc
  have ho : o % z = 0 := ho
  have hc : n * z ≤ cc := hc
  subst hy
  obtain ⟨_, g2⟩ := must_out hR (show must (Nat.beq y y) (bounds lo hi mx n fun l h e => when e (k (.x 6 .lf 0 0 0)) (forceN (Nat.add (Nat.div o y) l) fun o => forceN (Nat.sub h l) fun n => k (.vs tt o n y))) = R from g1)
  obtain ⟨l, h, e', m, g3, hl, hh, h1, h2, b1, b2, b3, b4⟩ := bounds_out hR g2
  obtain ⟨i, _, hi', hsi⟩ := szOf_pos (P := V.P) (t := e) (by omega)
  have hiz : i.size = y := by omega
  have hoz : o / y * y = o := Nat.div_mul_cancel (Nat.dvd_of_mod_eq_zero ho)
  have hm : mx.isSome = true → h ≤ m ∧ m ≤ n := fun e => ⟨(h1 e).1, (h1 e).2.1⟩
  have hsl : ∀ {w : World} {F : Nat → Prop} {μ : Mu} {ad : Addr} {a bb c : Option Value}, OptRel w F μ lo a → OptRel w F μ hi bb → OptRel w F μ mx c →
      (Instr.sliceAt t (.pointer (some ad)) a bb c).run V.P w = .ok (.slice (some (if (if mx.isSome = true then m else n) = l then ad else ad.add (l * i.size))) (h - l) ((if mx.isSome = true then m else n) - l)) w := fun {w F μ ad a bb c} q1 q2 q3 => by
    have hb := run_bounds (P := V.P) (s := false) q1 q2 q3 b1 b2 b3 b4 hl hh hm (Nat.le_refl n)
    simp [Instr.sliceAt, Instr.sureAddr, run_underlying (und_some ht).1, hb, sizeOf, typeInfo, hi']
  rcases when_out hR g3 with ⟨he, g4⟩ | ⟨he, g4⟩
  · have hs : mx.isSome = true := by cases mx with
      | none => rw [h2 rfl] at he; cases he
      | some _ => rfl
    have hml : m = l := by rw [← beqN, ← (h1 hs).2.2]; exact he
    refine ⟨_, g4, fun {w F μ u a bb c} ha q1 q2 q3 => ?_⟩
    cases ha with
    | vptr us hF hu ho1 hrel =>
      refine ⟨_, hsl q1 q2 q3, ?_⟩
      have := (h1 hs).1
      rw [if_pos hs, if_pos hml, show h - l = 0 by omega, show m - l = 0 by omega]
      exact .emp
  · rw [forceN_eq, forceN_eq] at g4
    refine ⟨_, g4, fun {w F μ u a bb c} ha q1 q2 q3 => ?_⟩
    cases ha with
    | vptr us hF hu ho1 hrel =>
      rename_i B off
      refine ⟨_, hsl q1 q2 q3, ?_⟩
      have hM : h ≤ (if mx.isSome = true then m else n) ∧ (if mx.isSome = true then m else n) ≤ n := by
        by_cases hs : mx.isSome = true
        · rw [if_pos hs]; have := hm hs; omega
        · rw [if_neg hs]; omega
      generalize (if mx.isSome = true then m else n) = N at *
      show CRel w F μ (.vs tt (o / y + l) (h - l) y) _
      by_cases e1 : N = l
      · rw [if_pos e1, show h - l = 0 by omega, show N - l = 0 by omega]; exact .vs0
      · rw [if_neg e1]
        show CRel w F μ (.vs tt (o / y + l) (h - l) y) (.slice (some ((⟨B, off, none⟩ : Addr).add (l * i.size))) (h - l) (N - l))
        rw [Addr.add_mid, hiz]
        have hlt : ∀ i, i < (h - l) * y → l * y + i < cc := fun i hi => by
          have h3 : (h - l) * y + l * y = h * y := by rw [← Nat.add_mul]; congr 1; omega
          have h4 : h * y ≤ n * y := Nat.mul_le_mul_right y hh
          omega
        refine .vs (fun i => us (l * y + i)) hF (by omega) (fun i hi => ?_) (fun i hi => ho1 _ (hlt i hi)) fun i hi => ?_
        · rw [Nat.add_assoc]; exact hu _ (hlt i hi)
        · rw [Nat.add_mul, hoz, Nat.add_assoc]; exact hrel _ (hlt i hi)
include ok hR in
theorem clearK_out {ts : Array TypeId} {dT e ty : TypeId} (h0 : ts[0]? = some dT) (hu : und V.P dT = some (.slice e)) (hz : 1 ≤ szOf V.P e) (hzk : zeroOk V.P e (szOf V.P e) = true) {a : AV} {hp : Hp} {k : Hp → Res} (g : clearK M (szOf V.P e) (zeroEl V.P e) a hp k = R) :
    ∃ hp', k hp' = R ∧ ∀ {w : World} {F : Nat → Prop} {μ : Mu} {u : Value}, CRel w F μ a u → HRel V μ F hp w → Does V μ F hp w (Builtin.clear_ ts ty #[u]) hp' fun _ _ μ' r => r = .tuple #[] ∧ μ' = μ := by
  obtain ⟨i, v, q1, q2, q3, q4, q5⟩ := zeroOk_out hzk
  generalize hze : szOf V.P e = z at hz hzk g q4 q5
  have hU := (und_some hu).1
  have stay : ∀ {w : World} {ad : Option Addr} {c : Nat}, (Builtin.clear_ ts ty #[.slice ad 0 c]).run V.P w = .ok (.tuple #[]) w := fun {w ad c} => by
    cases ad <;> simp [Builtin.clear_, h0, run_underlying hU]
  rcases onSlice_out hR g with ⟨c, o, n, y, rfl, g⟩ | ⟨t, o, n, y, rfl, g⟩ | ⟨i', t, a', b', c, rfl, g⟩ | ⟨s, n, rfl, g⟩
  · obtain ⟨hy, g2⟩ := must_out hR g
    rw [beqN] at hy; subst hy
    rcases when_out hR g2 with ⟨h0', g3⟩ | ⟨h0', g3⟩
    · rw [beqN] at h0'
      subst h0'
      refine ⟨_, g3, fun {w F μ u} ha H => ?_⟩
      cases ha <;> exact Does.stay H stay ⟨rfl, rfl⟩
    · have hn0 : ¬ n = 0 := fun e => by rw [← beqN] at e; rw [e] at h0'; cases h0'
      obtain ⟨fl, x', s, t, hB, hs, hpr, g4⟩ := hown_out ok hR g3
      obtain ⟨hx, g5⟩ := must_out hR g4
      rw [beqN] at hx; subst hx
      obtain ⟨ho, g6⟩ := must_out hR g5
      rw [beqN] at ho
      have ho : o % x' = 0 := ho
      obtain ⟨r, hr, g7⟩ := rep_out ok hR _ g6
      obtain ⟨hp', hset, _, g8⟩ := hput_out ok hR g7
      have hoz : Nat.div o x' * x' = o := Nat.div_mul_cancel (Nat.dvd_of_mod_eq_zero ho)
      have hx0 : 0 < x' := hz
      obtain ⟨hr1, hr2⟩ := cells_rep hx0 hr
      rw [hoz] at hr1 hr2
      have hs : o + n * x' ≤ s := hs
      refine ⟨_, g8, fun {w F μ u} ha H => ?_⟩
      have hlen : (Builtin.zeroCells v.cells n).toList.length = n * x' := by rw [Array.length_toList, zeroCells_size, q4]
      cases ha with
      | ms0 => exact absurd rfl hn0
      | ms hm hc hcs =>
        rename_i cc mm
        obtain ⟨hH, hE, hrun⟩ := H.write (o := o) (vs := (Builtin.zeroCells v.cells n).toList) (fl' := false) hB hpr hm (by rw [hlen]; exact hs) (fun j hj => by
            rw [hlen] at hj
            obtain ⟨y, h1, h2, h3, _⟩ := q5 (j % x') (Nat.mod_lt _ (by omega))
            refine ⟨y, ?_, h2, ?_⟩
            · rw [Array.getElem?_toList]
              unfold Builtin.zeroCells
              rw [Array.getElem?_map, q4, Array.getElem?_range, if_pos hj]
              show some (v.cells[j % x']!) = some y
              rw [getElem!_def, h1]
            · rw [hr1 j hj]; exact h3 w F μ)
          (fun j hj hne => hr2 j (by rw [← hlen]; exact hne)) (fun e => Bool.noConfusion e) hset
        refine ⟨μ, F, _, _, ?_, ⟨rfl, rfl⟩, hH, hE⟩
        cases n with
        | zero => exact absurd rfl hn0
        | succ n =>
          simp [Builtin.clear_, h0, run_underlying hU, zeroValue, typeInfo, q2, q3, hrun]
  · exact fail_out hR g
  · obtain ⟨hg, g⟩ := must_out hR g
    rw [Bool.or_eq_true, beqN, beqN] at hg
    refine ⟨_, g, fun {w F μ u} ha H => ?_⟩
    rcases hg with rfl | rfl <;> cases ha <;> exact Does.stay H stay ⟨rfl, rfl⟩
  · exact fail_out hR g
include ok hR in
/-- A slice of bytes converted to its own type: a mark on its block. -/
theorem mark_out {s e : TypeId} (hs : und V.P s = some (.slice e)) (he : isU8 V.P e = true) {a : AV} {hp : Hp} {k : AV → Hp → Res}
    (g : (a.onSlice (fun b _ n _ => must (Nat.ble 1 n) (hp.own M b 0 fun _ _ _ _ => k a hp)) (fun _ _ _ _ => .fail) (fun _ => .fail) (fun _ _ => .fail)) = R) :
    k a hp = R ∧ ∀ {w : World} {F : Nat → Prop} {μ : Mu} {u : Value}, CRel w F μ a u → HRel V μ F hp w → Does V μ F hp w (convert s s u) hp fun w' F' μ' r => CRel w' F' μ' a r ∧ μ' = μ := by
  rcases onSlice_out hR g with ⟨b, o, n, y, rfl, g⟩ | ⟨t, o, n, y, rfl, g⟩ | ⟨i', t, a', b', c, rfl, g⟩ | ⟨s, n, rfl, g⟩
  · obtain ⟨hn, g2⟩ := must_out hR g
    rw [bleN] at hn
    obtain ⟨fl, z, sz, t, hB, _, hpr, g3⟩ := hown_out ok hR g2
    refine ⟨g3, fun {w F μ u} ha H => ?_⟩
    cases ha with
    | ms0 => omega
    | @ms _ _ _ _ _ cap m hm hc hcs =>
      have hb := H.blk b
      rw [hB] at hb
      obtain ⟨m', c, T, fz, p1, p2, p3, p4, p5, p6, p7⟩ := hb
      rw [hm] at p1; cases p1
      have hshape : w.shape? m.blk = some (T, c.size) := by simp [World.shape?, p2]
      let fz' : Nat × Nat := if fz.1 = fz.2 then (c.size, c.size + 1) else (min fz.1 c.size, max fz.2 (c.size + 1))
      have hmod : (w.freeze ⟨m.blk, c.size, none⟩ 1).heap[m.blk]? = some (.cells c T fz') := by
        simp only [World.freeze, Nat.one_ne_zero, if_false, Array.getElem?_modify, p2, if_true, Option.map_some, fz']
        obtain ⟨f1, f2⟩ := fz
        simp only [beq_iff_eq]
      have hoth : ∀ X, X ≠ m.blk → (w.freeze ⟨m.blk, c.size, none⟩ 1).heap[X]? = w.heap[X]? := fun X hX => by
        simp only [World.freeze, Nat.one_ne_zero, if_false, Array.getElem?_modify, if_neg (Ne.symm hX)]
      have hsz : (w.freeze ⟨m.blk, c.size, none⟩ 1).heap.size = w.heap.size := by
        simp only [World.freeze, Nat.one_ne_zero, if_false, Array.size_modify]
      have hwr : (hp.at b).wr := by rw [hB]; exact rfl
      have hF : ∀ X, F X → (w.freeze ⟨m.blk, c.size, none⟩ 1).heap[X]? = w.heap[X]? := fun X hX => hoth X fun e => (p6 rfl).2 (e ▸ hX)
      obtain ⟨hH, hE⟩ := H.set (h' := hp) hwr hpr hm hsz hoth (B := hp.at b) ⟨fun c => by
          by_cases e : c = b
          · rw [if_pos e, e]
          · rw [if_neg e], Nat.le_refl _, rfl, rfl⟩ (by
        rw [hB]
        refine ⟨m, c, T, fz', hm, hmod, p3, fun i hi => ?_, p5, fun _ => ⟨?_, (p6 rfl).2⟩, fun e => Bool.noConfusion e⟩
        · obtain ⟨u, h1, h2, h3⟩ := p4 i hi
          exact ⟨u, h1, h2, h3.mono hF (fun _ h => h) (fun _ _ h => h)⟩
        · right
          simp only [fz']
          split
          · exact Nat.le_refl _
          · rcases (p6 rfl).1 with h | h
            · contradiction
            · show c.size ≤ min fz.1 c.size
              omega)
      refine ⟨μ, F, _, .slice (some ⟨m.blk, m.base + o, none⟩) n cap, ?_, ⟨.ms hm hc hcs, rfl⟩, hH, hE⟩
      simp [convert, run_underlying (und_some hs).1, run_underlying (isU8_out he), markStringish, hshape]
  · exact fail_out hR g
  · exact fail_out hR g
  · exact fail_out hR g
end
end Go.Proofs.YtlffjnddiiojnaaGreatDoor.Ev

/- Maps. -/
namespace Go.Proofs.YtlffjnddiiojnaaGreatDoor.Ev
/-- Keys of a kind, as the machine holds them against each other. -/
theorem sameNow_ok {P : Program} {kt : TypeId} {c : Nat} (hk : keyKind P kt = some c) : ∃ d, und P kt = some d ∧ (∀ u v, KAt c u → KAt c v → ∃ r, Instr.sameNow d u v = some r ∧ (r = true ↔ u = v)) ∧
    (∀ b n v w, (Instr.checkKey b (n + 1) kt v).run P w = .ok () w) ∧ ∀ u, KAt c u → Instr.sameBits 10000 u u = true := by
  unfold keyKind at hk
  cases hu : und P kt with
  | none => rw [hu] at hk; cases hk
  | some d =>
    rw [hu] at hk
    have hU := (und_some hu).1
    have sb : ∀ n (u : Value), (∃ b, u = .bool b) ∨ (∃ s, u = .string s) ∨ (∃ q n, u = .int q n) → Instr.sameBits n u u = true := fun n u h => by
      rcases h with ⟨b, rfl⟩ | ⟨s, rfl⟩ | ⟨q, m, rfl⟩
      · cases n <;> simp [Instr.sameBits]
      · have : (s == s) = true := by rw [beq_toListBytes]; exact (bytes_eq s s).2 rfl
        cases n <;> simp [Instr.sameBits, this]
      · cases n <;> simp [Instr.sameBits]
    cases d with
    | bool =>
      cases hk
      refine ⟨_, rfl, fun u v ⟨x, hx⟩ ⟨y, hy⟩ => ?_, fun b n v w => ?_, fun u ⟨x, hx⟩ => sb _ _ (.inl ⟨x, hx⟩)⟩
      · subst hx; subst hy
        exact ⟨_, rfl, by simp⟩
      · cases v <;> simp [Instr.checkKey, run_underlying hU]
    | string =>
      cases hk
      refine ⟨_, rfl, fun u v ⟨x, hx⟩ ⟨y, hy⟩ => ?_, fun b n v w => ?_, fun u ⟨x, hx⟩ => sb _ _ (.inr (.inl ⟨x, hx⟩))⟩
      · subst hx; subst hy
        exact ⟨_, rfl, by rw [beq_toListBytes, bytes_eq]; simp⟩
      · cases v <;> simp [Instr.checkKey, run_underlying hU]
    | int q =>
      have : c = kc q + 2 := (Option.some.inj hk).symm
      subst this
      refine ⟨_, rfl, fun u v ⟨x, hx⟩ ⟨y, hy⟩ => ?_, fun b n v w => ?_, fun u ⟨x, hx⟩ => sb _ _ (.inr (.inr ⟨_, x, hx⟩))⟩
      · subst hx; subst hy
        refine ⟨decide (x = y), ?_, by simp⟩
        simp only [Instr.sameNow, if_true]
        congr 1
      · cases v <;> simp [Instr.checkKey, run_underlying hU]
    | _ => cases hk
/-- A key's place among the first entries: found at j, or not at all. -/
def FindAt (c : Nat) (kv : Value) (ks : Nat → Value) (n : Nat) (r : Option Nat) : Prop := match r with
  | some j => j < n ∧ KAt c kv ∧ ks j = kv ∧ (∀ i, i ≤ j → KAt c (ks i)) ∧ ∀ i, i < j → ks i ≠ kv
  | none => (0 < n → KAt c kv) ∧ ∀ i, i < n → KAt c (ks i) ∧ ks i ≠ kv
section
variable {M : Mem} (ok : MemOk M) {R : Res} (hR : R ≠ .fail)
include ok hR in
theorem findK_out {c : Nat} {key : AV} {k : Nat → Res} {z : Res} (n : Nat) : ∀ {t : Row} {s : Nat}, (findK M c n).f t (2 * s) key k z = R →
    ∃ r : Option Nat, (match r with | some j => k (2 * (s + j)) | none => z) = R ∧ ∀ {w : World} {F : Nat → Prop} {μ : Mu} {kv : Value} {ks : Nat → Value}, CRel w F μ key kv → (∀ i, i < n → CRel w F μ (t.at (2 * (s + i))) (ks i)) → FindAt c kv ks n r := by
  induction n with
  | zero => intro t s g; exact ⟨none, g, fun _ _ => ⟨fun h => absurd h (Nat.lt_irrefl _), fun i hi => absurd hi (Nat.not_lt_zero _)⟩⟩
  | succ n ih =>
    intro t s g
    have g1 := ok.rg hR (show M.rg.f t (2 * s) (fun a => cellEq c a key fun r => when r (k (2 * s)) ((findK M c n).f t (Nat.succ (Nat.succ (2 * s))) key k z)) = R from g)
    obtain ⟨r, g2, h⟩ := cellEq_out hR g1
    rcases when_out hR g2 with ⟨hr, g3⟩ | ⟨hr, g3⟩
    · subst hr
      refine ⟨some 0, g3, fun {w F μ kv ks} hk hks => ?_⟩
      obtain ⟨h1, h2, h3⟩ := h (hks 0 (Nat.succ_pos _)) hk
      exact ⟨Nat.succ_pos _, h2, h3.1 rfl, fun i hi => by rw [Nat.le_zero.1 hi]; exact h1, fun i hi => absurd hi (Nat.not_lt_zero _)⟩
    · subst hr
      obtain ⟨r', g4, h'⟩ := ih (s := s + 1) (show (findK M c n).f t (2 * (s + 1)) key k z = R from g3)
      refine ⟨r'.map (· + 1), ?_, fun {w F μ kv ks} hk hks => ?_⟩
      · cases r' with
        | none => exact g4
        | some j => rw [← g4]; show k (2 * (s + (j + 1))) = k (2 * (s + 1 + j)); congr 1; omega
      · obtain ⟨h1, h2, h3⟩ := h (hks 0 (Nat.succ_pos _)) hk
        have hne : ks 0 ≠ kv := fun e => Bool.noConfusion (h3.2 e)
        have := h' (ks := fun i => ks (i + 1)) hk fun i hi => by
          have := hks (i + 1) (by omega)
          rw [show s + 1 + i = s + (i + 1) by omega]; exact this
        cases r' with
        | none =>
          refine ⟨fun _ => h2, fun i hi => ?_⟩
          cases i with
          | zero => exact ⟨h1, hne⟩
          | succ i => exact this.2 i (Nat.lt_of_succ_lt_succ hi)
        | some j =>
          obtain ⟨q1, q2, q3, q4, q5⟩ := this
          refine ⟨Nat.succ_lt_succ q1, q2, q3, fun i hi => ?_, fun i hi => ?_⟩
          · cases i with
            | zero => exact h1
            | succ i => exact q4 i (Nat.le_of_succ_le_succ hi)
          · cases i with
            | zero => exact hne
            | succ i => exact q5 i (Nat.lt_of_succ_lt_succ hi)
theorem findNow_ok {d : TypeDesc} {c : Nat} {kv : Value} (hd : ∀ u v, KAt c u → KAt c v → ∃ r, Instr.sameNow d u v = some r ∧ (r = true ↔ u = v)) : ∀ (l : List MapEntry) (s : Nat) (ks : Nat → Value) (r : Option Nat), (∀ i e, l[i]? = some e → ks i = e.key) → FindAt c kv ks l.length r →
    Instr.findNow d kv l s = some (match r with | some j => l[j]?.map fun e => (s + j, e.val) | none => none)
  | [], s, ks, r, _, h => by
    cases r with
    | none => rfl
    | some j => exact absurd h.1 (Nat.not_lt_zero _)
  | e :: l, s, ks, r, hk, h => by
    have h0 : ks 0 = e.key := hk 0 e rfl
    have rest : ∀ i e', l[i]? = some e' → ks (i + 1) = e'.key := fun i e' h => hk (i + 1) e' h
    have hkv : KAt c kv := by
      cases r with
      | none => exact h.1 (Nat.succ_pos _)
      | some j => exact h.2.1
    have hk0 : KAt c e.key := by
      rw [← h0]
      cases r with
      | none => exact (h.2 0 (Nat.succ_pos _)).1
      | some j => exact h.2.2.2.1 0 (Nat.zero_le _)
    obtain ⟨b, hb, hbe⟩ := hd kv e.key hkv hk0
    unfold Instr.findNow
    rw [hb]
    cases b with
    | true =>
      have e0 := hbe.1 rfl
      cases r with
      | none => exact absurd (h0.trans e0.symm) (h.2 0 (Nat.succ_pos _)).2
      | some j =>
        cases j with
        | zero => simp
        | succ j => exact absurd (h0.trans e0.symm) (h.2.2.2.2 0 (Nat.succ_pos _))
    | false =>
      have e0 : ¬ kv = e.key := fun x => Bool.noConfusion (hbe.2 x)
      cases r with
      | none =>
        have := findNow_ok hd l (s + 1) (fun i => ks (i + 1)) none rest ⟨fun _ => hkv, fun i hi => h.2 (i + 1) (Nat.succ_lt_succ hi)⟩
        exact this
      | some j =>
        cases j with
        | zero => exact absurd (h.2.2.1.symm.trans h0) e0
        | succ j =>
          obtain ⟨q1, q2, q3, q4, q5⟩ := h
          have := findNow_ok hd l (s + 1) (fun i => ks (i + 1)) (some j) rest ⟨Nat.lt_of_succ_lt_succ q1, q2, q3, fun i hi => q4 (i + 1) (Nat.succ_le_succ hi), fun i hi => q5 (i + 1) (Nat.succ_lt_succ hi)⟩
          simp only [this]
          rw [show s + 1 + j = s + (j + 1) by omega]
          rfl
end
section
variable {V : Env} {M : Mem} (ok : MemOk M) {R : Res} (hR : R ≠ .fail)
include ok hR
theorem onMapBlk {m : AV} {hp : Hp} {f : Nat → Nat → Row → Res} (g : (m.onX fun q _ b _ _ => must (Nat.beq q 4) (hp.get M b fun B => B.onMap fun n t => f b n t)) = R) : ∃ tr b p c n t, m = .x 4 tr b p c ∧ hp.at b = .map n t ∧ f b n t = R := by
  obtain ⟨q, tr, b, p, c, rfl, g⟩ := onX_out hR g
  obtain ⟨hq, g2⟩ := must_out hR g
  rw [beqN] at hq; subst hq
  have g3 := hget_out ok hR g2
  obtain ⟨n, t, hB, g4⟩ := onMap_out hR g3
  exact ⟨tr, b, p, c, n, t, rfl, hB, g4⟩
omit ok hR in
theorem World.runMap {P : Program} {w : World} {r : Nat} {es : Array MapEntry} {clock : Nat} (hb : w.heap[r]? = some (.map es clock)) : (getObj r).run P w = .ok (.map es clock) w := by simp [getObj, Sem.run, hb]
omit ok hR in
/-- How the machine finds a key. -/
theorem mapFind {kt : TypeId} {c : Nat} (hk : keyKind V.P kt = some c) {key : AV} {n : Nat} {tb : Row} {r : Option Nat}
    (H : ∀ {w : World} {F : Nat → Prop} {μ : Mu} {kv : Value} {ks : Nat → Value}, CRel w F μ key kv → (∀ i, i < n → CRel w F μ (tb.at (2 * (0 + i))) (ks i)) → FindAt c kv ks n r)
    {w : World} {F : Nat → Prop} {μ : Mu} {u u' : Value} {tr : Row} {b p cc : Nat} (hu : CRel w F μ (.x 4 tr b p cc) u) (hkv : CRel w F μ key u') (hr : BRead V w F μ b (.map n tb)) :
    ∃ (mp : Mp) (es : Array MapEntry) (clk : Nat), u = .map (some mp.blk) ∧ μ b = some mp ∧ w.heap[mp.blk]? = some (.map es clk) ∧ ¬ F mp.blk ∧ es.size = n ∧ (∀ i, i < n → ∃ en, es[i]? = some en ∧ CRel w F μ (tb.at (2 * i)) en.key ∧ CRel w F μ (tb.at (2 * i + 1)) en.val) ∧
      (∀ j, r = some j → j < n ∧ KAt c u' ∧ ∀ en, es[j]? = some en → en.key = u') ∧
      ∀ w', (Instr.findKey kt u' es.toList).run V.P w' = .ok (match r with | some j => es[j]?.map fun en => (j, en.val) | none => none) w' := by
  obtain ⟨d, hd1, hd2, hd3, _⟩ := sameNow_ok hk
  cases hu with
  | map hm =>
    obtain ⟨m', es, clk, p1, p2, p3, p4, p5⟩ := hr
    rw [hm] at p1; cases p1
    obtain ⟨ks, hks⟩ := pick_fn (n := n) (Q := fun i u => CRel w F μ (tb.at (2 * (0 + i))) u ∧ ∃ en, es[i]? = some en ∧ u = en.key) fun i hi => by
      obtain ⟨en, h1, h2, _⟩ := p5 i hi
      exact ⟨en.key, by rw [Nat.zero_add]; exact h2, en, h1, rfl⟩
    have hf := H hkv fun i hi => (hks i hi).1
    have hlen : es.toList.length = n := by rw [Array.length_toList, p4]
    have hnow := findNow_ok hd2 es.toList 0 ks r (fun i en hi => by
      have hi' : i < n := by rw [← hlen]; exact (List.getElem?_eq_some_iff.1 hi).1
      obtain ⟨en', q1, q2⟩ := (hks i hi').2
      rw [Array.getElem?_toList, q1] at hi; cases hi; exact q2) (by rw [hlen]; exact hf)
    refine ⟨_, es, clk, rfl, hm, p2, p3, p4, p5, fun j hj => ?_, fun w' => ?_⟩
    · subst hj
      refine ⟨hf.1, hf.2.1, fun en he => ?_⟩
      obtain ⟨en', q1, q2⟩ := (hks j hf.1).2
      rw [q1] at he; cases he
      rw [← q2]; exact hf.2.2.1
    · simp only [Instr.findKey, Sem.run_bind, run_underlying (und_some hd1).1, Result.andThen_ok, hnow, Sem.run_pure]
      cases r with
      | none => rfl
      | some j => simp only [Array.getElem?_toList, Nat.zero_add]
theorem lookup_out {t kt e : TypeId} {c : Nat} {cm : Bool} (ht : und V.P t = some (.map kt e)) (hk : keyKind V.P kt = some c) {m key : AV} {hp : Hp} {k : AV → Hp → Res}
    (g : (m.onX fun q _ b _ _ => must (Nat.beq q 4) (hp.get M b fun B => B.onMap fun n t =>
      (findK M c n).f t 0 key (fun j => M.rg.f t (Nat.succ j) fun v => when cm (k (.tup (.nd v .lf (.nd (.bool true) .lf .lf)) 2) hp) (k v hp)) (must (isKnown (zeroAV V.P e)) (when cm (k (.tup (.nd (zeroAV V.P e) .lf (.nd (.bool false) .lf .lf)) 2) hp) (k (zeroAV V.P e) hp))))) = R) :
    ∃ v, k v hp = R ∧ SpotLive hp m ∧ Read2 V (fun u u' => Instr.lookup t u u' cm) hp m key v := by
  obtain ⟨tr, b, p, cc, n, tb, rfl, hB, g1⟩ := onMapBlk ok hR (f := fun b n t => (findK M c n).f t 0 key (fun j => M.rg.f t (Nat.succ j) fun v => when cm (k (.tup (.nd v .lf (.nd (.bool true) .lf .lf)) 2) hp) (k v hp)) (must (isKnown (zeroAV V.P e)) (when cm (k (.tup (.nd (zeroAV V.P e) .lf (.nd (.bool false) .lf .lf)) 2) hp) (k (zeroAV V.P e) hp)))) g
  obtain ⟨r, g2, H⟩ := findK_out ok hR n (s := 0) g1
  obtain ⟨d, hd1, hd2, hd3, _⟩ := sameNow_ok hk
  have run := fun {w F μ u u'} => mapFind (V := V) (w := w) (F := F) (μ := μ) (u := u) (u' := u') (tr := tr) (b := b) (p := p) (cc := cc) hk H
  have live : SpotLive hp (.x 4 tr b p cc) := fun c' hc => by cases hc; rw [hB]; trivial
  have pair : ∀ {w : World} {F : Nat → Prop} {μ : Mu} {v : AV} {u : Value} {bb : Bool}, CRel w F μ v u → CRel w F μ (.tup (.nd v .lf (.nd (.bool bb) .lf .lf)) 2) (.tuple #[u, .bool bb]) := fun {w F μ v u bb} h =>
    .tup (fun i => if i = 0 then u else .bool bb) rfl (fun i hi => by
      have hi : i < 2 := hi
      rcases (by omega : i = 0 ∨ i = 1) with rfl | rfl <;> rfl) fun i hi => by
      have hi : i < 2 := hi
      rcases (by omega : i = 0 ∨ i = 1) with rfl | rfl
      · exact h
      · exact .bool _
  cases r with
  | some j =>
    have g3 := ok.rg hR g2
    rw [Nat.zero_add] at g3
    have fin : ∀ {w : World} {F : Nat → Prop} {μ : Mu} {u u' : Value}, CRel w F μ (.x 4 tr b p cc) u → CRel w F μ key u' → ReadOk V w F μ hp (.x 4 tr b p cc) → ∃ x, CRel w F μ (tb.at (2 * j + 1)) x ∧ (Instr.lookup t u u' cm).run V.P w = .ok (if cm then .tuple #[x, .bool true] else x) w := by
      intro w F μ u u' hu hkv hro
      have hro' := hro b rfl
      rw [hB] at hro'
      obtain ⟨mp, es, clk, rfl, hmu, p2, p3, p4, p5, hj, p6⟩ := run hu hkv hro'
      obtain ⟨en, q1, q2, q3⟩ := p5 j (hj j rfl).1
      refine ⟨en.val, q3, ?_⟩
      simp only [Instr.lookup, Sem.run_bind, run_underlying (und_some ht).1, Result.andThen_ok, World.runMap p2, hd3 _ 9999, p6, q1, Option.map_some, Sem.run_pure]
    rcases when_out hR g3 with ⟨hc, g4⟩ | ⟨hc, g4⟩
    · refine ⟨_, g4, live, fun {w F μ u u'} hu hkv hro => ?_⟩
      obtain ⟨x, h1, h2⟩ := fin hu hkv hro
      rw [if_pos hc] at h2
      exact ⟨_, h2, pair h1⟩
    · refine ⟨_, g4, live, fun {w F μ u u'} hu hkv hro => ?_⟩
      obtain ⟨x, h1, h2⟩ := fin hu hkv hro
      rw [if_neg (by rw [hc]; decide)] at h2
      exact ⟨_, h2, h1⟩
  | none =>
    obtain ⟨hkn, g3⟩ := must_out hR g2
    obtain ⟨i, zv, z1, z2, z3, z4⟩ := zero_known hkn
    have fin : ∀ {w : World} {F : Nat → Prop} {μ : Mu} {u u' : Value}, CRel w F μ (.x 4 tr b p cc) u → CRel w F μ key u' → ReadOk V w F μ hp (.x 4 tr b p cc) → CRel w F μ (zeroAV V.P e) zv ∧ (Instr.lookup t u u' cm).run V.P w = .ok (if cm then .tuple #[zv, .bool false] else zv) w := by
      intro w F μ u u' hu hkv hro
      have hro' := hro b rfl
      rw [hB] at hro'
      obtain ⟨mp, es, clk, rfl, hmu, p2, p3, p4, p5, hj, p6⟩ := run hu hkv hro'
      refine ⟨by rw [z4]; exact rel_constAV zv, ?_⟩
      simp [Instr.lookup, Sem.run_bind, run_underlying (und_some ht).1, Result.andThen_ok, World.runMap p2, hd3 _ 9999, p6, zeroValue, typeInfo, z2, z3]
    rcases when_out hR g3 with ⟨hc, g4⟩ | ⟨hc, g4⟩
    · refine ⟨_, g4, live, fun {w F μ u u'} hu hkv hro => ?_⟩
      obtain ⟨h1, h2⟩ := fin hu hkv hro
      rw [if_pos hc] at h2
      exact ⟨_, h2, pair h1⟩
    · refine ⟨_, g4, live, fun {w F μ u u'} hu hkv hro => ?_⟩
      obtain ⟨h1, h2⟩ := fin hu hkv hro
      rw [if_neg (by rw [hc]; decide)] at h2
      exact ⟨_, h2, h1⟩
theorem mapUpdate_out {t kt e : TypeId} {c : Nat} (ht : und V.P t = some (.map kt e)) (hk : keyKind V.P kt = some c) {m key v : AV} {hp : Hp} {k : Hp → Res}
    (g : (m.onX fun q _ b _ _ => must (Nat.beq q 4) (notProt b hp (hp.get M b fun B => B.onMap fun n t =>
      (findK M c n).f t 0 key (fun j => M.rs.f t (Nat.succ j) v fun t => hp.put M b (.map n t) k)
        (M.rs.f t (Nat.mul 2 n) key fun t => M.rs.f t (Nat.succ (Nat.mul 2 n)) v fun t => hp.put M b (.map (Nat.succ n) t) k)))) = R) :
    ∃ hp', k hp' = R ∧ ∀ {w : World} {F : Nat → Prop} {μ : Mu} {um uk uv : Value}, CRel w F μ m um → CRel w F μ key uk → CRel w F μ v uv → HRel V μ F hp w → Does V μ F hp w (Instr.mapUpdate t um uk uv) hp' fun _ _ μ' _ => μ' = μ := by
  obtain ⟨q, tr, b, p, cc, rfl, g1⟩ := onX_out hR g
  obtain ⟨hq, g2⟩ := must_out hR g1
  rw [beqN] at hq; subst hq
  obtain ⟨hpr, g3⟩ := notIn_out hR (show notIn b hp.pr _ = R from g2)
  have g4 := hget_out ok hR g3
  obtain ⟨n, tb, hB, g5⟩ := onMap_out hR g4
  obtain ⟨r, g6, H⟩ := findK_out ok hR n (s := 0) g5
  obtain ⟨d, hd1, hd2, hd3, hd4⟩ := sameNow_ok hk
  -- the block behind it
  have fin : ∀ {w : World} {F : Nat → Prop} {μ : Mu} {uk uv : Value} {hp' : Hp} {n' : Nat} {t' : Row} {mp : Mp} {es es' : Array MapEntry} {clk clk' : Nat}, HRel V μ F hp w → HSet hp b (.map n' t') hp' → μ b = some mp → w.heap[mp.blk]? = some (.map es clk) → ¬ F mp.blk →
      es'.size = n' → (∀ i, i < n' → ∃ en, es'[i]? = some en ∧ CRel w F μ (t'.at (2 * i)) en.key ∧ CRel w F μ (t'.at (2 * i + 1)) en.val) →
      (Instr.mapUpdate t (.map (some mp.blk)) uk uv).run V.P w = (setObj mp.blk (.map es' clk')).run V.P w → Does V μ F hp w (Instr.mapUpdate t (.map (some mp.blk)) uk uv) hp' fun _ _ μ' _ => μ' = μ := by
    intro w F μ uk uv hp' n' t' mp es es' clk clk' hH hset hmu hblk hnF hsz hes hrun
    have hlt : mp.blk < w.heap.size := (hH.dom b mp hmu).2
    have hwr : (hp.at b).wr := by rw [hB]; exact trivial
    have hoth : ∀ X, X ≠ mp.blk → (w.heap.setIfInBounds mp.blk (.map es' clk'))[X]? = w.heap[X]? := fun X hX => by
      rw [Array.getElem?_setIfInBounds, if_neg (Ne.symm hX)]
    obtain ⟨h1, h2⟩ := hH.set (w' := { w with heap := w.heap.setIfInBounds mp.blk (.map es' clk') }) hwr hpr hmu (by simp) hoth hset ⟨mp, es', clk', hmu, by
        show (w.heap.setIfInBounds mp.blk (.map es' clk'))[mp.blk]? = _
        rw [Array.getElem?_setIfInBounds, if_pos rfl, if_pos hlt], hnF, hsz, fun i hi => by
        obtain ⟨en, q1, q2, q3⟩ := hes i hi
        have hF : ∀ X, F X → (w.heap.setIfInBounds mp.blk (.map es' clk'))[X]? = w.heap[X]? := fun X hX => hoth X fun e => hnF (e ▸ hX)
        exact ⟨en, q1, q2.mono hF (fun _ h => h) (fun _ _ h => h), q3.mono hF (fun _ h => h) (fun _ _ h => h)⟩⟩
    refine ⟨μ, F, _, (), ?_, rfl, h1, h2⟩
    rw [hrun]
    simp [setObj, Sem.run, hblk]
  cases r with
  | some j =>
    obtain ⟨t', ht0, g7⟩ := ok.rs hR g6
    have ht' : ∀ x, t'.at x = if x = 2 * j + 1 then v else tb.at x := fun x => (ht0 x).trans (by rw [Nat.zero_add])
    obtain ⟨hp', hset, _, g8⟩ := hput_out ok hR g7
    refine ⟨hp', g8, fun {w F μ um uk uv} hm hkv hv hH => ?_⟩
    have hro := (hH.blk b).read
    rw [hB] at hro
    obtain ⟨mp, es, clk, rfl, hmu, p2, p3, p4, p5, hj, p6⟩ := mapFind (V := V) hk H hm hkv hro
    obtain ⟨hj1, hj2, hj3⟩ := hj j rfl
    obtain ⟨en, q1, q2, q3⟩ := p5 j hj1
    have hen := hj3 en q1
    refine fin (es' := es.modify j fun en => { en with key := uk, val := uv }) (clk' := clk) hH hset hmu p2 p3 (by rw [Array.size_modify]; exact p4) (fun i hi => ?_) ?_
    · obtain ⟨ei, r1, r2, r3⟩ := p5 i hi
      by_cases e : i = j
      · subst e
        rw [q1] at r1; cases r1
        refine ⟨{ en with key := uk, val := uv }, by rw [Array.getElem?_modify, if_pos rfl, q1]; rfl, ?_, ?_⟩
        · show CRel w F μ _ uk
          rw [ht', if_neg (by omega), ← hen]; exact q2
        · rw [ht', if_pos (by omega)]; exact hv
      · refine ⟨ei, by rw [Array.getElem?_modify, if_neg (Ne.symm e)]; exact r1, ?_, ?_⟩
        · rw [ht', if_neg (by omega)]; exact r2
        · rw [ht', if_neg (by omega)]; exact r3
    · have hsame := hd4 uk hj2
      simp only [Instr.mapUpdate, Sem.run_bind, run_underlying (und_some ht).1, Result.andThen_ok, World.runMap p2, hd3 _ 9999, p6, q1, Option.map_some, Option.getD_some, Instr.keyThatStays, hen, hsame, if_true, Sem.run_pure]
  | none =>
    obtain ⟨t1, ht1', g7⟩ := ok.rs hR g6
    obtain ⟨t2, ht2', g8⟩ := ok.rs hR g7
    have ht1 : ∀ x, t1.at x = if x = 2 * n then key else tb.at x := fun x => ht1' x
    have ht2 : ∀ x, t2.at x = if x = 2 * n + 1 then v else t1.at x := fun x => ht2' x
    obtain ⟨hp', hset, _, g9⟩ := hput_out ok hR g8
    have h2n : Nat.mul 2 n = 2 * n := rfl
    refine ⟨hp', g9, fun {w F μ um uk uv} hm hkv hv hH => ?_⟩
    have hro := (hH.blk b).read
    rw [hB] at hro
    obtain ⟨mp, es, clk, rfl, hmu, p2, p3, p4, p5, hj, p6⟩ := mapFind (V := V) hk H hm hkv hro
    refine fin (es' := es.push { key := uk, val := uv, born := clk }) (clk' := clk + 1) hH hset hmu p2 p3 (by rw [Array.size_push, p4]) (fun i hi => ?_) ?_
    · by_cases e : i = n
      · subst e
        refine ⟨{ key := uk, val := uv, born := clk }, by rw [Array.getElem?_push, if_pos p4.symm], ?_, ?_⟩
        · rw [ht2, if_neg (by omega), ht1, if_pos rfl]; exact hkv
        · rw [ht2, if_pos rfl]; exact hv
      · obtain ⟨ei, r1, r2, r3⟩ := p5 i (by omega)
        refine ⟨ei, by rw [Array.getElem?_push, if_neg (by omega)]; exact r1, ?_, ?_⟩
        · rw [ht2, if_neg (by omega), ht1, if_neg (by omega)]; exact r2
        · rw [ht2, if_neg (by omega), ht1, if_neg (by omega)]; exact r3
    · simp only [Instr.mapUpdate, Sem.run_bind, run_underlying (und_some ht).1, Result.andThen_ok, World.runMap p2, hd3 _ 9999, p6]
end
end Go.Proofs.YtlffjnddiiojnaaGreatDoor.Ev

/- Slices that are built out of parts. -/
namespace Go.Proofs.YtlffjnddiiojnaaGreatDoor.Ev
/-- Cells, by their numbers, stand for an array of so many. -/
def CR (w : World) (F : Nat → Prop) (μ : Mu) (f : Nat → AV) (cs : Array Value) (n : Nat) : Prop := cs.size = n ∧ ∀ i, i < n → ∃ y, cs[i]? = some y ∧ y.oneCell' = true ∧ CRel w F μ (f i) y
theorem CR.set {w : World} {F : Nat → Prop} {μ : Mu} {f f' : Nat → AV} {cs : Array Value} {n off sz : Nat} {v : AV} {u : Value} (h : CR w F μ f cs n) (hf : Fits v sz) (hv : CRel w F μ v u) (hp : ∀ j, f' j = if off ≤ j ∧ j < off + sz then cv v (j - off) else f j) (hle : off + sz ≤ n) :
    u.cells.size = sz ∧ ¬ (off + u.cells.size > cs.size) ∧ CR w F μ f' (u.cells.zipIdx.foldl (fun cs (p : Value × Nat) => cs.setIfInBounds (off + p.2) p.1) cs) n := by
  obtain ⟨h1, h2⟩ := cells_rel hf hv
  refine ⟨h1, by rw [h1, h.1]; omega, ?_⟩
  obtain ⟨q1, q2⟩ := foldl_set off u.cells.toList 0 cs
  have e : u.cells.zipIdx.foldl (fun (cs : Array Value) (p : Value × Nat) => cs.setIfInBounds (off + p.2) p.1) cs = (u.cells.toList.zipIdx 0).foldl (fun (cs : Array Value) (p : Value × Nat) => cs.setIfInBounds (off + p.2) p.1) cs := by
    rw [← Array.foldl_toList, Array.toList_zipIdx]
  rw [e]
  refine ⟨by rw [q1, h.1], fun i hi => ?_⟩
  have hl : u.cells.toList.length = sz := by rw [Array.length_toList, h1]
  rw [q2 i, hp i, hl, h.1, Nat.add_zero]
  by_cases c : off ≤ i ∧ i < off + sz
  · rw [if_pos ⟨c.1, c.2, hi⟩, if_pos c]
    obtain ⟨y, r1, r2, r3⟩ := h2 (i - off) (by omega)
    exact ⟨y, by rw [Array.getElem?_toList]; exact r1, r2, r3⟩
  · rw [if_neg (fun q => c ⟨q.1, q.2.1⟩), if_neg c]; exact h.2 i hi
theorem fitP_out {o z : Nat → Nat} {n : Nat} : ∀ {l : List (Nat × Operand)}, fitP o z n l = true → ∀ p ∈ l, o p.1 + z p.1 ≤ n
  | [], _, p, hp => by cases hp
  | a :: l, h, p, hp => by
    have h' : and2 (Nat.ble (Nat.add (o a.1) (z a.1)) n) (fitP o z n l) = true := h
    rw [and2_eq, bleN] at h'
    rcases List.mem_cons.1 hp with rfl | hp
    · exact h'.1
    · exact fitP_out h'.2 p hp
section
variable {C : Cx} {g : G} {R : Res}
theorem vk_out (ok : MemOk C.M) (hR : R ≠ .fail) {o : Nat → Nat} {z : Nat} {sk : Row} {fr : Fr} : ∀ {ps : List (Nat × Operand)} {t : Row} {f : Bool} {k : Row → Bool → Res}, (vk C.M z (partsOf C g ps o fun _ => z)).f sk fr t f k = R →
    ∃ t' f', k t' f' = R ∧ (∀ {n : Nat}, (∀ p ∈ ps, o p.1 + z ≤ n) → (f = true → ∀ i, i < n → (cellAt z t i).isFree = true) → (f' = true → ∀ i, i < n → (cellAt z t' i).isFree = true)) ∧
      ∀ {w : World} {F : Nat → Prop} {μ : Mu} {ρ : Operand → Value} {cs : Array Value} {n : Nat} {place : Nat → Option (Nat × Nat)}, (∀ p ∈ ps, CRel w F μ (ov C g sk fr p.2) (ρ p.2)) → CR w F μ (cellAt z t) cs n → (∀ p ∈ ps, o p.1 + z ≤ n) →
      (∀ p ∈ ps, place p.1 = some (o p.1, z)) → ∃ cs', Instr.fill place cs (ps.map fun p => (p.1, ρ p.2)) = some cs' ∧ CR w F μ (cellAt z t') cs' n := by
  intro ps
  induction ps with
  | nil => intro t f k h; exact ⟨t, f, h, fun _ h => h, fun {w F μ ρ cs n place} _ hl _ _ => ⟨cs, rfl, hl⟩⟩
  | cons p r ih =>
    intro t f k h
    have h1 := rdO_out hR (k := fun v => wrV C.M z z t (o p.1) v fun t b => (vk C.M z (partsOf C g r o fun _ => z)).f sk fr t (and2 f b) k) h
    obtain ⟨t1, b, hf, hs, hfree, h2⟩ := wrV_out ok hR h1
    obtain ⟨t', f', h3, H1, H2⟩ := ih h2
    refine ⟨t', f', h3, fun {n} hle hfr => H1 (fun q hq => hle q (List.mem_cons_of_mem _ hq)) fun e i hi => ?_, fun {w F μ ρ cs n place} hρ hl hle hpl => ?_⟩
    · rw [and2_eq] at e
      rw [hs]
      by_cases c : o p.1 ≤ i ∧ i < o p.1 + z
      · rw [if_pos c]
        rcases hfree e.2 (i - o p.1) (by omega) with h | ⟨l, n, hl, h⟩
        · exact isFree_of_plain h
        · rw [hl]
          show (nth l (i - o p.1)).isFree = true
          rw [nth_ge h]; rfl
      · rw [if_neg c]; exact hfr e.1 i hi
    · obtain ⟨e1, e2, e3⟩ := hl.set hf (hρ p (List.mem_cons_self ..)) hs (hle p (List.mem_cons_self ..))
      obtain ⟨cs', q1, q2⟩ := H2 (ρ := ρ) (place := place) (fun q hq => hρ q (List.mem_cons_of_mem _ hq)) e3 (fun q hq => hle q (List.mem_cons_of_mem _ hq)) (fun q hq => hpl q (List.mem_cons_of_mem _ hq))
      refine ⟨cs', ?_, q2⟩
      rw [List.map_cons, Instr.fill, hpl p (List.mem_cons_self ..)]
      simp only []
      rw [if_neg]
      · exact q1
      · simp only [Bool.or_eq_true, decide_eq_true_eq]
        rintro (h | h)
        · exact h e1
        · exact e2 h
theorem buildSlice_out (ok : MemOk C.M) (hR : R ≠ .fail) {V : Env} {N : NK} {hp : Hp} {id : Nat} (hN : NSpec N hp id) {t e : TypeId} {len : Nat} {ps : Array (Nat × Operand)} {sk : Row} {fr : Fr} {k : AV → Hp → Res} (ht : und V.P t = some (.slice e)) {z : Nat} (hsz : szOf V.P e = z) (hz : 1 ≤ z)
    (hzk : zeroOk V.P e z = true) (hb : len * z ≤ 16777216) (hfit : fitP (fun i => i * z) (fun _ => z) (len * z) ps.toList = true)
    (h : (vk C.M z (partsOf C g ps.toList (fun i => i * z) fun _ => z)).f sk fr (Tr.full (zeroEl V.P e) (depth len)) true (fun r f => N.f hp (.row true f z (len * z) r) fun id hp => k (.ms id 0 len z) hp) = R) :
    ∃ B hp', k (.ms id 0 len z) hp' = R ∧ HSet hp id B hp' ∧ id < hp'.nx ∧ New V (fun w F μ (ρ : Operand → Value) => ∀ p ∈ ps.toList, CRel w F μ (ov C g sk fr p.2) (ρ p.2)) (fun ρ => Instr.buildSlice t len (ps.map fun (i, x) => (i, ρ x))) id B (.ms id 0 len z) := by
  obtain ⟨i, zv, q1, q2, q3, q4, q5⟩ := zeroOk_out hzk
  have hi : i.size = z := by rw [← hsz, szOf_info q1]
  obtain ⟨r, f, h2, H1, H2⟩ := vk_out ok hR h
  obtain ⟨hp', h3, hset, hid⟩ := hN hR rfl rfl h2
  have hle := fitP_out hfit
  have hc : ∀ i, i < len * z → cellAt z (Tr.full (zeroEl V.P e) (depth len)) i = zc V.P e z (i % z) := fun i hi => by rw [cellAt_full (by omega) hi]; rfl
  refine ⟨_, hp', h3, hset, hid, new_row (fun e i hi => H1 hle (fun _ i hi => by
    rw [hc i hi]
    obtain ⟨y, _, _, _, hf⟩ := q5 (i % z) (Nat.mod_lt _ (by omega))
    exact hf) e i hi) fun {w F μ ρ} hρ => ?_⟩
  -- the zero cells
  have hz0 : CR w F μ (cellAt z (Tr.full (zeroEl V.P e) (depth len))) ((Array.range (len * z)).map (zv.cells[· % zv.cells.size]!)) (len * z) := by
    refine ⟨by simp, fun j hj => ?_⟩
    obtain ⟨y, h1, h2, h3, _⟩ := q5 (j % z) (Nat.mod_lt _ (by omega))
    refine ⟨y, ?_, h2, by rw [hc j hj]; exact h3 w F μ⟩
    rw [Array.getElem?_map, Array.getElem?_range, if_pos hj, q4]
    show some (zv.cells[j % z]!) = some y
    rw [getElem!_def, h1]
  obtain ⟨cs, e1, e2, e3⟩ := H2 (ρ := ρ) (place := fun i => some (i * z, z)) hρ hz0 hle (fun p _ => rfl)
  have hmap : (ps.map fun (i, x) => (i, ρ x)).toList = ps.toList.map fun p => (p.1, ρ p.2) := by rw [Array.toList_map]
  refine ⟨.slice (some ⟨w.heap.size, 0, none⟩) len len, w.alloc (.cells cs e), cs, e, (0, 0), ?_, ⟨rfl, rfl, rfl⟩, .inl rfl, e3, fun {μ'} hμ => .ms hμ (Nat.le_refl _) (by show 0 + 0 + len * z ≤ cs.size; rw [e2]; omega)⟩
  by_cases h0 : len * z = 0
  · have hnil : ((Array.range (len * z)).map (zv.cells[· % zv.cells.size]!)) = ((Array.range (len * z)).map ((#[] : Array Value)[· % (#[] : Array Value).size]!)) := by rw [h0]; simp
    rw [hnil] at e1
    simp [Instr.buildSlice, run_underlying (und_some ht).1, sizeOf, typeInfo, q2, hi, h0, newRow]
    rw [h0] at e1
    simp at e1
    simp [e1]
  · have : ¬ len * z > 2 ^ 24 := by omega
    simp only [Instr.buildSlice, Sem.run_bind, run_underlying (und_some ht).1, Result.andThen_ok, sizeOf, typeInfo, hmap, zeroValue]
    simp [q2, q3, hi, h0, this, e1, newRow]
end
end Go.Proofs.YtlffjnddiiojnaaGreatDoor.Ev

/- What an operation of a region does: its kinds. -/
namespace Go.Proofs.YtlffjnddiiojnaaGreatDoor.Ev
/-- The fence that lets every function in; within a round of a loop over a function, or not. -/
def Wf (r : Option Nat) : Fence := { fn := fun _ => True, depth := none, alive := false, round := r }
theorem room_wf (r : Option Nat) (n : Nat) : (Wf r).room n := fun _ h => by cases h
/-- What operands stand for. -/
def ORel (w : World) (F : Nat → Prop) (μ : Mu) (O : Operand → AV) (l : List Operand) (ρ : Operand → Value) : Prop := ∀ x ∈ l, CRel w F μ (O x) (ρ x)
/-- What an operation hands back. -/
def Nx (r : Next) (x : Value) : Prop := r = .value x ∨ (r = .skip ∧ x = undef)
/-- New numbers: this one, or free ones. -/
def NewIds (id : Nat) (hp : Hp) (μ μ' : Mu) : Prop := ∀ b, μ' b ≠ none → μ b ≠ none ∨ b = id ∨ hp.nx ≤ b
theorem InId.news {id : Nat} {hp : Hp} {μ μ' : Mu} (h : InId id μ μ') : NewIds id hp μ μ' := fun b hb => (h b hb).imp (fun h => h) .inl
theorem NewIds.refl (id : Nat) (hp : Hp) (μ : Mu) : NewIds id hp μ μ := fun _ h => .inl h

/-- A step of the machine that hands back a value. -/
def DoesN (V : Env) (μ : Mu) (F : Nat → Prop) (h : Hp) (w : World) (s : Sem Next) (v : AV) (id : Nat) (h' : Hp) : Prop :=
  ∃ r x w' μ' F', s.run V.P w = .ok r w' ∧ Nx r x ∧ CRel w' F' μ' v x ∧ InId id μ μ' ∧ HRel V μ' F' h' w' ∧ Ext μ F h w μ' F' h' w'

/-- An operation's kinds: 0 it neither reads nor makes memory · 1 it reads what an operand leads to · 2 it makes one block · 3 others. -/
inductive Knd (V : Env) (O : Operand → AV) (o : Oper) (id : Nat) (hp : Hp) (v : AV) (hp' : Hp) : Nat → Prop
  | pure (h : hp' = hp) (H : ∀ {w : World} {F : Nat → Prop} {μ : Mu} {ρ : Operand → Value}, ORel w F μ O o.op.operands.toList ρ → ∃ r x, (execOp ρ o).run V.P w = .ok r w ∧ Nx r x ∧ CRel w F μ v x) : Knd V O o id hp v hp' 0
  | read (p : Operand) (h : hp' = hp) (hsp : spot o.op = some p) (hm : p ∈ o.op.operands.toList) (hl : SpotLive hp (O p)) (H : ∀ {w : World} {F : Nat → Prop} {μ : Mu} {ρ : Operand → Value}, ORel w F μ O o.op.operands.toList ρ → ReadOk V w F μ hp (O p) → ∃ r x, (execOp ρ o).run V.P w = .ok r w ∧ Nx r x ∧ CRel w F μ v x) : Knd V O o id hp v hp' 1
  | make (B : Blk) (hs : HSet hp id B hp') (hn : id < hp'.nx) (H : ∀ {w : World} {F : Nat → Prop} {μ : Mu} {ρ : Operand → Value} {h h' : Hp}, ORel w F μ O o.op.operands.toList ρ → μ id = none → HRel V μ F h w → HSet h id B h' → id < h'.nx → DoesN V μ F h w (execOp ρ o) v id h') : Knd V O o id hp v hp' 2
  | other (H : ∀ {w : World} {F : Nat → Prop} {μ : Mu} {a : Act} {r : Option Nat} {n : Nat} {Q : Exit → Act → World → Prop} {K : Act → World → Prop}, ORel w F μ O o.op.operands.toList a.eval → μ id = none → HRel V μ F hp w →
      (∀ x w' μ' F', CRel w' F' μ' v x → NewIds id hp μ μ' → HRel V μ' F' hp' w' → Ext μ F hp w μ' F' hp' w' → K (a.put o.dst x) w') → o.wpIn (Wf r) n V.P a w K Q) : Knd V O o id hp v hp' 3

theorem wp_value {V : Env} {o : Oper} {a : Act} {w w' : World} {r : Option Nat} {n : Nat} {Q : Exit → Act → World → Prop} {K : Act → World → Prop} {nx : Next} {x : Value} (hd : ∀ c, o.op ≠ .defer c) (h : (execOp a.eval o).run V.P w = .ok nx w') (hx : Nx nx x) (hk : K (a.put o.dst x) w') : o.wpIn (Wf r) n V.P a w K Q := by
  refine ⟨fun _ _ => trivial, ?_⟩
  rw [Oper.semAt_eq _ _ _ hd, h]
  rcases hx with rfl | ⟨rfl, rfl⟩
  · exact hk
  · exact hk
/-- All kinds at once. -/
theorem Knd.wp {V : Env} {O : Operand → AV} {o : Oper} {id : Nat} {hp : Hp} {v : AV} {hp' : Hp} {kd : Nat} (k : Knd V O o id hp v hp' kd) (hd : ∀ c, o.op ≠ .defer c) {w : World} {F : Nat → Prop} {μ : Mu} {a : Act} {r : Option Nat} {n : Nat} {Q : Exit → Act → World → Prop} {K : Act → World → Prop}
    (hO : ORel w F μ O o.op.operands.toList a.eval) (hid : μ id = none) (H : HRel V μ F hp w) (hK : ∀ x w' μ' F', CRel w' F' μ' v x → NewIds id hp μ μ' → HRel V μ' F' hp' w' → Ext μ F hp w μ' F' hp' w' → K (a.put o.dst x) w') : o.wpIn (Wf r) n V.P a w K Q := by
  cases k with
  | pure h G =>
    subst h
    obtain ⟨nx, x, h1, h2, h3⟩ := G hO
    exact wp_value hd h1 h2 (hK x w μ F h3 (NewIds.refl _ _ _) H (Ext.refl _ _ _ _))
  | read p h hsp hm hl G =>
    subst h
    obtain ⟨nx, x, h1, h2, h3⟩ := G hO (H.read _)
    exact wp_value hd h1 h2 (hK x w μ F h3 (NewIds.refl _ _ _) H (Ext.refl _ _ _ _))
  | make B hs hn G =>
    obtain ⟨nx, x, w', μ', F', h1, h2, h3, h4, h5, h6⟩ := G hO hid H hs hn
    exact wp_value hd h1 h2 (hK x w' μ' F' h3 h4.news h5 h6)
  | other G => exact G hO hid H hK

/-! From the laws of operations to kinds. -/
section
variable {V : Env} {O : Operand → AV} {o : Oper} {id : Nat} {hp hp' : Hp} {v : AV}
theorem run_value {P : Program} {s : Sem Value} {w w' : World} {x : Value} (h : s.run P w = .ok x w') : ((do pure (.value (← s)) : Sem Next)).run P w = .ok (.value x) w' := by
  rw [Sem.run_bind, h]; rfl
theorem run_unit {P : Program} {s : Sem Unit} {w w' : World} (h : s.run P w = .ok () w') : ((do s; pure .skip : Sem Next)).run P w = .ok .skip w' := by
  rw [Sem.run_bind, h]; rfl
theorem mem1 {o : Oper} {x : Operand} (h : o.op.operands = #[x]) : x ∈ o.op.operands.toList := by rw [h]; exact List.mem_cons_self ..
theorem Knd.pure1 {x : Operand} {s : Value → Sem Value} (hx : x ∈ o.op.operands.toList) (he : ∀ ρ, execOp ρ o = (do Pure.pure (.value (← s (ρ x))))) (h : Pure1 V.P s (O x) v) : Knd V O o id hp v hp 0 := .pure rfl fun hO => by
  obtain ⟨r, h1, h2⟩ := h (hO x hx)
  exact ⟨_, r, by rw [he]; exact run_value h1, .inl rfl, h2⟩
theorem Knd.pure2 {x y : Operand} {s : Value → Value → Sem Value} (hx : x ∈ o.op.operands.toList) (hy : y ∈ o.op.operands.toList) (he : ∀ ρ, execOp ρ o = (do Pure.pure (.value (← s (ρ x) (ρ y))))) (h : Pure2 V.P s (O x) (O y) v) : Knd V O o id hp v hp 0 := .pure rfl fun hO => by
  obtain ⟨r, h1, h2⟩ := h (hO x hx) (hO y hy)
  exact ⟨_, r, by rw [he]; exact run_value h1, .inl rfl, h2⟩
theorem Knd.read1 {x : Operand} {s : Value → Sem Value} (hsp : spot o.op = some x) (hx : x ∈ o.op.operands.toList) (he : ∀ ρ, execOp ρ o = (do Pure.pure (.value (← s (ρ x))))) (hl : SpotLive hp (O x)) (h : Read1 V s hp (O x) v) : Knd V O o id hp v hp 1 := .read x rfl hsp hx hl fun hO hr => by
  obtain ⟨r, h1, h2⟩ := h (hO x hx) hr
  exact ⟨_, r, by rw [he]; exact run_value h1, .inl rfl, h2⟩
theorem Knd.read2 {x y : Operand} {s : Value → Value → Sem Value} (hsp : spot o.op = some x) (hx : x ∈ o.op.operands.toList) (hy : y ∈ o.op.operands.toList) (he : ∀ ρ, execOp ρ o = (do Pure.pure (.value (← s (ρ x) (ρ y))))) (hl : SpotLive hp (O x)) (h : Read2 V s hp (O x) (O y) v) : Knd V O o id hp v hp 1 := .read x rfl hsp hx hl fun hO hr => by
  obtain ⟨r, h1, h2⟩ := h (hO x hx) (hO y hy) hr
  exact ⟨_, r, by rw [he]; exact run_value h1, .inl rfl, h2⟩
theorem Knd.new {α : Type} {Q : World → (Nat → Prop) → Mu → α → Prop} {s : α → Sem Value} {B : Blk} (A : (Operand → Value) → α) (he : ∀ ρ, execOp ρ o = (do Pure.pure (.value (← s (A ρ))))) (hQ : ∀ {w : World} {F : Nat → Prop} {μ : Mu} {ρ : Operand → Value}, ORel w F μ O o.op.operands.toList ρ → Q w F μ (A ρ)) (hs : HSet hp id B hp') (hn : id < hp'.nx) (h : New V Q s id B v) : Knd V O o id hp v hp' 2 :=
  .make B hs hn fun hO hid hH hs' hn' => by
    obtain ⟨μ', F', w', x, h1, ⟨h2, h3⟩, h4, h5⟩ := h.out (hQ hO) hid hH hs' hn'
    exact ⟨_, x, w', μ', F', by rw [he]; exact run_value h1, .inl rfl, h2, h3, h4, h5⟩
/-- Operations that write: what they hand back stands for the value, and this number alone is new. -/
theorem Knd.does (hd : ∀ c, o.op ≠ .defer c) (h : ∀ {w : World} {F : Nat → Prop} {μ : Mu} {ρ : Operand → Value}, ORel w F μ O o.op.operands.toList ρ → μ id = none → HRel V μ F hp w → DoesN V μ F hp w (execOp ρ o) v id hp') : Knd V O o id hp v hp' 3 := .other fun hO hid hH hK => by
  obtain ⟨nx, x, w', μ', F', h1, h2, h3, h4, h5, h6⟩ := h hO hid hH
  exact wp_value hd h1 h2 (hK x w' μ' F' h3 h4.news h5 h6)
theorem DoesN.of {μ : Mu} {F : Nat → Prop} {w : World} {ρ : Operand → Value} {s : Sem Value} {Q : World → (Nat → Prop) → Mu → Value → Prop} (he : execOp ρ o = (do Pure.pure (.value (← s)))) (h : Does V μ F hp w s hp' Q) (hQ : ∀ w' F' μ' r, Q w' F' μ' r → CRel w' F' μ' v r ∧ InId id μ μ') : DoesN V μ F hp w (execOp ρ o) v id hp' := by
  obtain ⟨μ', F', w', x, h1, h2, h3, h4⟩ := h
  exact ⟨_, x, w', μ', F', by rw [he]; exact run_value h1, .inl rfl, (hQ _ _ _ _ h2).1, (hQ _ _ _ _ h2).2, h3, h4⟩
theorem rel_undef {w : World} {F : Nat → Prop} {μ : Mu} : CRel w F μ undefT undef := .tup (fun _ => undef) rfl (fun _ hi => absurd hi (Nat.not_lt_zero _)) fun _ hi => absurd hi (Nat.not_lt_zero _)
theorem DoesN.ofU {μ : Mu} {F : Nat → Prop} {w : World} {ρ : Operand → Value} {s : Sem Unit} (he : execOp ρ o = (do s; Pure.pure .skip)) (h : Does V μ F hp w s hp' fun _ _ μ' _ => μ' = μ) : DoesN V μ F hp w (execOp ρ o) undefT id hp' := by
  obtain ⟨μ', F', w', x, h1, rfl, h3, h4⟩ := h
  exact ⟨_, undef, w', _, F', by rw [he]; exact run_unit h1, .inr ⟨rfl, rfl⟩, rel_undef, InId.refl _ _, h3, h4⟩
end
end Go.Proofs.YtlffjnddiiojnaaGreatDoor.Ev

/- Operations, one by one: what each of them is. -/
namespace Go.Proofs.YtlffjnddiiojnaaGreatDoor.Ev
theorem allF_out {f : Field → Bool} : ∀ {l : List Field}, allF f l = true → ∀ x ∈ l, f x = true
  | [], _, x, hx => by cases hx
  | a :: l, h, x, hx => by
    have h' : and2 (f a) (allF f l) = true := h
    rw [and2_eq] at h'
    rcases List.mem_cons.1 hx with rfl | hx
    · exact h'.1
    · exact allF_out h'.2 x hx
theorem allP_out {n : Nat} : ∀ {l : List (Nat × Operand)}, allP n l = true → ∀ p ∈ l, p.1 < n
  | [], _, p, hp => by cases hp
  | a :: l, h, p, hp => by
    have h' : and2 (Nat.ble (Nat.succ a.1) n) (allP n l) = true := h
    rw [and2_eq, bleN] at h'
    rcases List.mem_cons.1 hp with rfl | hp
    · exact h'.1
    · exact allP_out h'.2 p hp
theorem places_ok {P : Program} : ∀ (fs : List Field), (∀ x ∈ fs, known P x.type = true) → fs.mapM (fun f => (P.info? f.type).map fun i => (f.offset, i.size)) = some (fs.map fun f => (f.offset, szOf P f.type))
  | [], _ => rfl
  | f :: fs, h => by
    obtain ⟨d, hd⟩ := known_out (h f (List.mem_cons_self ..))
    obtain ⟨_, i, hi, hi2⟩ := und_some hd
    rw [List.mapM_cons, places_ok fs fun x hx => h x (List.mem_cons_of_mem _ hx), hi]
    simp [szOf_info hi2]
section
variable {C : Cx} {g : G} {R : Res}
theorem build_out (ok : MemOk C.M) (hR : R ≠ .fail) {P : Program} {t : TypeId} {ps : Array (Nat × Operand)} {sk : Row} {fr : Fr} {o z : Nat → Nat} {k : AV → Res}
    (hz : zeroOk P t (szOf P t) = true) (hfit : fitP o z (szOf P t) ps.toList = true)
    (hb : ∀ (v : Value) (i : TypeInfo) (l : List (Nat × Value)) (cs : Array Value), infoL P t = some i → i.zero = some v → Instr.fill (fun i => some (o i, z i)) v.cells l = some cs → (∀ p ∈ l, ∃ q ∈ ps.toList, p.1 = q.1) → P.built t l = some cs)
    (h : (uk (partsOf C g ps.toList o z)).f sk fr (zeroL P t) (fun l => k (.agg l (szOf P t))) = R) :
    ∃ v, k v = R ∧ ∀ {w : World} {F : Nat → Prop} {μ : Mu} {ρ : Operand → Value}, (∀ p ∈ ps.toList, CRel w F μ (ov C g sk fr p.2) (ρ p.2)) → ∃ r, (Instr.build t (ps.map fun (i, x) => (i, ρ x))).run P w = .ok r w ∧ CRel w F μ v r := by
  obtain ⟨l, h2, H⟩ := uk_out ok hR h
  refine ⟨_, h2, fun {w F μ ρ} hρ => ?_⟩
  obtain ⟨i, v, q1, q2, q3, q4, q5⟩ := zeroL_out hz
  obtain ⟨cs, e1, e2⟩ := H (ρ := ρ) (place := fun i => some (o i, z i)) hρ (q5 w F μ) (fitP_out hfit) fun p _ => rfl
  have hmap : (ps.map fun (i, x) => (i, ρ x)).toList = ps.toList.map fun p => (p.1, ρ p.2) := by rw [Array.toList_map]
  refine ⟨.agg cs, run_build w t _ cs ?_, e2.agg⟩
  rw [hmap]
  exact hb v i _ cs q1 q3 e1 fun p hp => by
    obtain ⟨q, hq, rfl⟩ := List.mem_map.1 hp
    exact ⟨q, hq, rfl⟩
theorem fill_congr {p q : Nat → Option (Nat × Nat)} : ∀ (l : List (Nat × Value)) (cs : Array Value), (∀ x ∈ l, p x.1 = q x.1) → Instr.fill p cs l = Instr.fill q cs l
  | [], _, _ => rfl
  | (i, v) :: l, cs, h => by
    have h0 := h (i, v) (List.mem_cons_self ..)
    have ih : ∀ cs, Instr.fill p cs l = Instr.fill q cs l := fun cs => fill_congr l cs fun x hx => h x (List.mem_cons_of_mem _ hx)
    simp only at h0
    simp only [Instr.fill, h0, ih]
theorem built_struct {P : Program} {t : TypeId} {fs : Array Field} (ht : und P t = some (.struct fs)) (hk : allF (fun f => known P f.type) fs.toList = true) {v : Value} {i : TypeInfo} {l : List (Nat × Value)} {cs : Array Value} (hi : infoL P t = some i) (hv : i.zero = some v)
    (hl : ∀ p ∈ l, p.1 < fs.size) (h : Instr.fill (fun i => some (fieldOff fs i, szOf P (fieldT fs i))) v.cells l = some cs) : P.built t l = some cs := by
  unfold Program.built
  have hm := places_ok fs.toList (allF_out hk)
  simp only [infoL_some hi, (und_some ht).1, hv, hm]
  rw [← h]
  refine fill_congr _ _ fun x hx => ?_
  obtain ⟨f, hf, h1, h2⟩ := field_get (hl x hx)
  rw [h1, h2]
  simp [hf]
theorem built_array {P : Program} {t e : TypeId} {n : Nat} (ht : und P t = some (.array n e)) (hk : known P e = true) {v : Value} {i : TypeInfo} {l : List (Nat × Value)} {cs : Array Value} (hi : infoL P t = some i) (hv : i.zero = some v)
    (h : Instr.fill (fun i => some (i * szOf P e, szOf P e)) v.cells l = some cs) : P.built t l = some cs := by
  obtain ⟨d, hd⟩ := known_out hk
  obtain ⟨_, ie, hie, hie2⟩ := und_some hd
  unfold Program.built
  simp only [infoL_some hi, (und_some ht).1, hv, hie]
  rw [szOf_info hie2] at h
  exact h
end
/-- What class goes with a kind. -/
def ClsOk (kd c : Nat) : Prop := kd = 0 ∨ (kd = 1 ∧ c = 1) ∨ (kd = 2 ∧ c = 2) ∨ (kd = 3 ∧ 3 ≤ c)
/-- What comes out of an operation. -/
def Out (C : Cx) (V : Env) (g : G) (P : Pt) (k : Sm) (sk : Row) (fr : Fr) (o : Oper) (id : Nat) (hp : Hp) (R : Res) : Prop :=
  ∃ v hp' kd, P.f k sk fr hp' v = R ∧ Knd V (ov C g sk fr) o id hp v hp' kd ∧ ClsOk kd (cls C.P o.op) ∧ ∀ c, o.op ≠ .defer c
section
variable {C : Cx} {vs : Vs} {g : G} {P : Pt} {N : NK} {k : Sm} {R : Res} (ok : MemOk C.M) (hR : R ≠ .fail) {sk : Row} {fr : Fr} {hp : Hp} {id : Nat} {d : Option Tmp} {ty : TypeId} {pos : String} {af : Array Edge} {gd : Option (Nat × Bool)}
abbrev Cx.env (C : Cx) (vs : Vs) : Env := ⟨C.P, vs⟩
theorem iff_out (hR : R ≠ .fail) {b : Bool} {s : Sm} (h : (iff b s).run sk fr hp = R) : b = true ∧ s.run sk fr hp = R := by
  cases b
  · exact fail_out hR h
  · exact ⟨rfl, h⟩
theorem out_pure1 {o : Oper} {x : Operand} {s : Value → Sem Value} (hd : ∀ c, o.op ≠ .defer c) (hx : x ∈ o.op.operands.toList) (he : ∀ ρ, execOp ρ o = (do Pure.pure (.value (← s (ρ x))))) (h : ∃ v, P.f k sk fr hp v = R ∧ Pure1 C.P s (ov C g sk fr x) v) : Out C (C.env vs) g P k sk fr o id hp R :=
  let ⟨v, h1, h2⟩ := h; ⟨v, hp, 0, h1, Knd.pure1 hx he h2, .inl rfl, hd⟩
theorem out_pure2 {o : Oper} {x y : Operand} {s : Value → Value → Sem Value} (hd : ∀ c, o.op ≠ .defer c) (hx : x ∈ o.op.operands.toList) (hy : y ∈ o.op.operands.toList) (he : ∀ ρ, execOp ρ o = (do Pure.pure (.value (← s (ρ x) (ρ y))))) (h : ∃ v, P.f k sk fr hp v = R ∧ Pure2 C.P s (ov C g sk fr x) (ov C g sk fr y) v) : Out C (C.env vs) g P k sk fr o id hp R :=
  let ⟨v, h1, h2⟩ := h; ⟨v, hp, 0, h1, Knd.pure2 hx hy he h2, .inl rfl, hd⟩
theorem out_pure {o : Oper} (hd : ∀ c, o.op ≠ .defer c) (h : ∃ v, P.f k sk fr hp v = R ∧ ∀ {w : World} {F : Nat → Prop} {μ : Mu} {ρ : Operand → Value}, ORel w F μ (ov C g sk fr) o.op.operands.toList ρ → ∃ r x, (execOp ρ o).run C.P w = .ok r w ∧ Nx r x ∧ CRel w F μ v x) : Out C (C.env vs) g P k sk fr o id hp R :=
  let ⟨v, h1, h2⟩ := h; ⟨v, hp, 0, h1, Knd.pure rfl h2, .inl rfl, hd⟩
include ok hR
theorem move_out {x : Operand} (o : Oper) (hop : o.op = .move x ∨ o.op = .assign x) (h : (cMove C g P k x).run sk fr hp = R) : Out C (C.env vs) g P k sk fr o id hp R := by
  have _ := ok
  have h1 := rdO_out hR (k := fun v => P.f k sk fr hp v) h
  refine out_pure (by rcases hop with e | e <;> rw [e] <;> simp) ⟨_, h1, fun hO => ⟨_, _, ?_, .inl rfl, hO x (by rcases hop with e | e <;> rw [e] <;> simp [Op.operands])⟩⟩
  rcases hop with e | e <;> simp only [execOp, e, Sem.run_pure]
theorem pick_out {c x y : Operand} (o : Oper) (hop : o.op = .pick c x y) (h : (cPick C g P k c x y).run sk fr hp = R) : Out C (C.env vs) g P k sk fr o id hp R := by
  have _ := ok
  have h1 := rdO_out hR (k := fun v => v.onBool fun t => when t ((rdO C g x).get sk fr fun v => P.f k sk fr hp v) ((rdO C g y).get sk fr fun v => P.f k sk fr hp v)) h
  obtain ⟨b, hb, h2⟩ := onBool_out hR h1
  have hd : ∀ c, o.op ≠ .defer c := by rw [hop]; simp
  have mem : ∀ z, z = c ∨ z = x ∨ z = y → z ∈ o.op.operands.toList := fun z hz => by rw [hop]; rcases hz with rfl | rfl | rfl <;> simp [Op.operands]
  rcases when_out hR h2 with ⟨e, h3⟩ | ⟨e, h3⟩
  · have h4 := rdO_out hR (k := fun v => P.f k sk fr hp v) h3
    refine out_pure hd ⟨_, h4, fun {w F μ ρ} hO => ⟨.value (ρ x), _, ?_, .inl rfl, hO x (mem x (.inr (.inl rfl)))⟩⟩
    have hc := hO c (mem c (.inl rfl))
    rw [hb] at hc
    simp [execOp, hop, inv_bool hc, asBool, e]
  · have h4 := rdO_out hR (k := fun v => P.f k sk fr hp v) h3
    refine out_pure hd ⟨_, h4, fun {w F μ ρ} hO => ⟨.value (ρ y), _, ?_, .inl rfl, hO y (mem y (.inr (.inr rfl)))⟩⟩
    have hc := hO c (mem c (.inl rfl))
    rw [hb] at hc
    simp [execOp, hop, inv_bool hc, asBool, e]
theorem alloc_out (hN : NSpec N hp id) {t : TypeId} (o : Oper) (hop : o.op = .alloc t) (hk : isKnown (zeroAV C.P t) = true) (h : (cBox C P N k t ⟨fun _ _ k => k (zeroAV C.P t)⟩).run sk fr hp = R) : Out C (C.env vs) g P k sk fr o id hp R := by
  obtain ⟨B, hp', h1, hs, hn, H⟩ := allocK_out (V := C.env vs) ok hR hN (t := t) (k := fun v hp => P.f k sk fr hp v) hk h
  exact ⟨_, hp', 2, h1, Knd.new (fun _ => ()) (fun ρ => by simp only [execOp, hop]) (fun _ => trivial) hs hn H, .inr (.inr (.inl ⟨rfl, by rw [hop]; rfl⟩)), by rw [hop]; simp⟩
theorem box_out (hN : NSpec N hp id) {t : TypeId} {x : Operand} (o : Oper) (hop : o.op = .box t x) (h : (cBox C P N k t (rdO C g x)).run sk fr hp = R) : Out C (C.env vs) g P k sk fr o id hp R := by
  have h1 := rdO_out hR (k := fun a => boxK C.M N a (elemZ C.P t) (szOf C.P t) hp fun v hp => P.f k sk fr hp v) h
  obtain ⟨B, hp', h2, hs, hn, H⟩ := boxK_out (V := C.env vs) ok hR hN (t := t) (k := fun v hp => P.f k sk fr hp v) h1
  exact ⟨_, hp', 2, h2, Knd.new (fun ρ => ρ x) (fun ρ => by simp only [execOp, hop]) (fun hO => hO x (by rw [hop]; simp [Op.operands])) hs hn H, .inr (.inr (.inl ⟨rfl, by rw [hop]; rfl⟩)), by rw [hop]; simp⟩
end
end Go.Proofs.YtlffjnddiiojnaaGreatDoor.Ev

/- Operations, one by one (the rest of them but calls). -/
namespace Go.Proofs.YtlffjnddiiojnaaGreatDoor.Ev
section
variable {C : Cx} {vs : Vs} {g : G} {P : Pt} {N : NK} {k : Sm} {R : Res} (ok : MemOk C.M) (hR : R ≠ .fail) {sk : Row} {fr : Fr} {hp : Hp} {id : Nat}
theorem boxK_known (hR : R ≠ .fail) {v : AV} {z sz : Nat} {q : AV → Hp → Res} {M : Mem} (h : boxK M N v z sz hp q = R) : isKnown v = true := by
  cases hv : isKnown v with
  | true => rfl
  | false =>
    cases v with
    | x gg t a b c =>
      cases gg with
      | zero =>
        rcases when_out hR h with ⟨_, h1⟩ | ⟨_, h1⟩
        · exact fail_out hR h1
        · exact fail_out hR h1
      | succ n => cases hv
    | _ => cases hv
include ok hR
theorem alloc'_out (hN : NSpec N hp id) {t : TypeId} (o : Oper) (hop : o.op = .alloc t) (h : (cBox C P N k t ⟨fun _ _ k => k (zeroAV C.P t)⟩).run sk fr hp = R) : Out C (C.env vs) g P k sk fr o id hp R :=
  alloc_out ok hR hN o hop (boxK_known hR (M := C.M) (hp := hp) (N := N) (v := zeroAV C.P t) (z := elemZ C.P t) (sz := szOf C.P t) (q := fun v hp => P.f k sk fr hp v) h) h
theorem cbuild_out {t : TypeId} {ps : Array (Nat × Operand)} (o : Oper) (hop : o.op = .build t ps) (h : (cBuild C g P k t ps).run sk fr hp = R) : Out C (C.env vs) g P k sk fr o id hp R := by
  have hd : ∀ c, o.op ≠ .defer c := by rw [hop]; simp
  have mem : ∀ p ∈ ps.toList, p.2 ∈ o.op.operands.toList := fun p hp => by
    rw [hop]
    show p.2 ∈ ((ps.toList.map (·.2)).toArray).toList
    rw [List.toList_toArray]
    exact List.mem_map.2 ⟨p, hp, rfl⟩
  have fin : (∃ v, P.f k sk fr hp v = R ∧ ∀ {w : World} {F : Nat → Prop} {μ : Mu} {ρ : Operand → Value}, (∀ p ∈ ps.toList, CRel w F μ (ov C g sk fr p.2) (ρ p.2)) → ∃ r, (Instr.build t (ps.map fun (i, x) => (i, ρ x))).run C.P w = .ok r w ∧ CRel w F μ v r) → Out C (C.env vs) g P k sk fr o id hp R := fun ⟨v, h1, h2⟩ => by
    refine out_pure hd ⟨v, h1, fun {w F μ ρ} hO => ?_⟩
    obtain ⟨r, e1, e2⟩ := h2 (w := w) (F := F) (μ := μ) (ρ := ρ) fun p hp => hO _ (mem p hp)
    exact ⟨_, r, by simp only [execOp, hop]; exact run_value e1, .inl rfl, e2⟩
  unfold cBuild at h
  split at h
  · rename_i fs hu
    obtain ⟨hb, h1⟩ := iff_out hR h
    rw [and2_eq, and2_eq, and2_eq] at hb
    obtain ⟨hz, hk, hP, hfit⟩ := hb
    exact fin (build_out (k := fun v => P.f k sk fr hp v) ok hR hz hfit (fun v i l cs hi hv hf hl => built_struct hu hk hi hv (fun p hp => by
      obtain ⟨q, hq, e⟩ := hl p hp
      rw [e]; exact allP_out hP q hq) hf) h1)
  · rename_i n e hu
    obtain ⟨hb, h1⟩ := iff_out hR h
    rw [and2_eq, and2_eq] at hb
    obtain ⟨hz, hk, hfit⟩ := hb
    exact fin (build_out (k := fun v => P.f k sk fr hp v) ok hR hz hfit (fun v i l cs hi hv hf hl => built_array hu hk hi hv hf) h1)
  · exact fail_out hR h
theorem slT_out {Q : Program} {t e : TypeId} (h : slT Q t = some e) : und Q t = some (.slice e) := by
  have _ := ok
  have _ := hR
  unfold slT at h
  split at h
  · rename_i e' hu; cases h; exact hu
  · cases h
theorem cbuildSlice_out (hN : NSpec N hp id) {t : TypeId} {len : Nat} {ps : Array (Nat × Operand)} (o : Oper) (hop : o.op = .buildSlice t len ps) (h : (cBuildSlice C g P N k t len ps).run sk fr hp = R) : Out C (C.env vs) g P k sk fr o id hp R := by
  have mem : ∀ p ∈ ps.toList, p.2 ∈ o.op.operands.toList := fun p hp => by
    rw [hop]
    show p.2 ∈ ((ps.toList.map (·.2)).toArray).toList
    rw [List.toList_toArray]
    exact List.mem_map.2 ⟨p, hp, rfl⟩
  unfold cBuildSlice at h
  split at h
  · exact fail_out hR h
  · rename_i e hs
    obtain ⟨hb, h1⟩ := iff_out hR h
    rw [and2_eq, and2_eq, and2_eq, bleN, bleN] at hb
    obtain ⟨hz, hzk, hle, hfit⟩ := hb
    obtain ⟨B, hp', h2, hset, hn, H⟩ := buildSlice_out (V := C.env vs) ok hR hN (k := fun v hp => P.f k sk fr hp v) (slT_out ok hR hs) rfl hz hzk hle hfit h1
    exact ⟨_, hp', 2, h2, Knd.new (fun ρ => ρ) (fun ρ => by simp only [execOp, hop]) (fun hO p hp => hO _ (mem p hp)) hset hn H, .inr (.inr (.inl ⟨rfl, by rw [hop]; rfl⟩)), by rw [hop]; simp⟩
theorem cload_out {t : TypeId} {x : Operand} (o : Oper) (hop : o.op = .load t x) (h : (cLoad C g P k t x).run sk fr hp = R) : Out C (C.env vs) g P k sk fr o id hp R := by
  unfold cLoad at h
  cases hk : known C.P t with
  | false => rw [hk] at h; exact fail_out hR h
  | true =>
    rw [hk] at h
    have h1 := rdO_out hR (k := fun a => loadK C.M (isAgg C.P t) (szOf C.P t) a hp fun v => P.f k sk fr hp v) h
    obtain ⟨v, h2, hl, H⟩ := loadK_out (V := C.env vs) ok hR (known_out hk) h1
    exact ⟨v, hp, 1, h2, Knd.read1 (by rw [hop]; rfl) (by rw [hop]; simp [Op.operands]) (fun ρ => by simp only [execOp, hop]) hl H, .inr (.inl ⟨rfl, by rw [hop]; rfl⟩), by rw [hop]; simp⟩
theorem cstore_out {t : TypeId} {x y : Operand} (o : Oper) (hop : o.op = .store t x y) (h : (cStore C g P k t x y).run sk fr hp = R) : Out C (C.env vs) g P k sk fr o id hp R := by
  have hd : ∀ c, o.op ≠ .defer c := by rw [hop]; simp
  obtain ⟨hz, h0⟩ := iff_out hR h
  rw [bleN] at hz
  have h1 := rdO_out hR (k := fun a => (rdO C g y).get sk fr fun v => storeK C.M (szOf C.P t) a v hp fun hp => P.f k sk fr hp undefT) h0
  have h2 := rdO_out hR (k := fun v => storeK C.M (szOf C.P t) (ov C g sk fr x) v hp fun hp => P.f k sk fr hp undefT) h1
  obtain ⟨hp', h3, H⟩ := storeK_out (V := C.env vs) ok hR hz h2
  exact ⟨_, hp', 3, h3, Knd.does hd fun hO _ hH => DoesN.ofU (by simp only [execOp, hop]) (H (hO x (by rw [hop]; simp [Op.operands])) (hO y (by rw [hop]; simp [Op.operands])) hH), .inr (.inr (.inr ⟨rfl, by rw [hop]; exact Nat.le_refl _⟩)), hd⟩
theorem cnil_out {x : Operand} (o : Oper) (hop : o.op = .nilCheck x) (h : (cNilCheck C g P k x).run sk fr hp = R) : Out C (C.env vs) g P k sk fr o id hp R := by
  have _ := ok
  have h1 := rdO_out hR (k := fun v => v.on (fun _ _ => .fail) (fun _ => .fail) (fun _ _ => .fail) (fun _ _ => P.f k sk fr hp v) (fun _ _ _ _ => .fail) (fun _ _ _ _ => .fail) (fun _ _ => .fail) (fun _ _ => .fail) (fun g _ _ _ _ => must (Nat.beq g 1 || Nat.beq g 3 || Nat.beq g 5 || Nat.beq g 12) (P.f k sk fr hp v))) h
  obtain ⟨h2, H⟩ := nil_out hR (k := fun v => P.f k sk fr hp v) h1
  refine out_pure (by rw [hop]; simp) ⟨_, h2, fun {w F μ ρ} hO => ?_⟩
  have hx := hO x (by rw [hop]; simp [Op.operands])
  refine ⟨.value (ρ x), _, ?_, .inl rfl, hx⟩
  simp only [execOp, hop]
  rcases H hx with ⟨a, e⟩ | ⟨f, fs, cs, e⟩ | ⟨l, e⟩ | ⟨t, v, e⟩ <;> rw [e] <;> rfl
theorem c1_out' {x : Operand} {f : AV → (AV → Res) → Res} (h : (c1 C g P k x f).run sk fr hp = R) : f (ov C g sk fr x) (fun v => P.f k sk fr hp v) = R := have _ := ok; rdO_out hR (k := fun a => f a fun v => P.f k sk fr hp v) h
theorem cbinV_out {op : BinOp} {t u : TypeId} {x y : Operand} (o : Oper) (hop : o.op = .binOp op t x y u) (h : (cBinV C g P k op t x y).run sk fr hp = R) : Out C (C.env vs) g P k sk fr o id hp R := by
  have _ := ok
  unfold cBinV at h
  have h1 := rdO_out hR (k := fun a => (rdO C g y).get sk fr fun b => (match und C.P t with
    | some (.int ik) => ibinOf op (kc ik)
    | some .string => sbin op
    | _ => obin (eqPlan C.P t) op : BK).f a b fun v => P.f k sk fr hp v) h
  have h2 := rdO_out hR (k := fun b => (match und C.P t with
    | some (.int ik) => ibinOf op (kc ik)
    | some .string => sbin op
    | _ => obin (eqPlan C.P t) op : BK).f (ov C g sk fr x) b fun v => P.f k sk fr hp v) h1
  obtain ⟨v, h3, H⟩ := bin_out hR (x := x) (y := y) h2
  exact out_pure2 (s := bin2 op t x y) (by rw [hop]; simp) (by rw [hop]; simp [Op.operands]) (by rw [hop]; simp [Op.operands]) (fun ρ => by simp only [execOp, hop]; rfl) ⟨v, h3, H⟩
theorem cbin_out {op : BinOp} {t u : TypeId} {x y : Operand} (o : Oper) (hop : o.op = .binOp op t x y u) (h : (cBin C g P k op t x y).run sk fr hp = R) : Out C (C.env vs) g P k sk fr o id hp R := by
  have e : cBin C g P k op t x y = if and2 (isIface C.P t) (isNilC y) = true then cBinN C g P k op x else cBinV C g P k op t x y := bcase _ _ _
  rw [e] at h
  split at h
  · rename_i hc
    rw [and2_eq] at hc
    have fin : ∀ (q : Bool → Bool), (op = .eql ∧ q = (fun b => b) ∨ op = .neq ∧ q = (!·)) → (∃ b, P.f k sk fr hp (.bool (q b)) = R ∧ ∀ {w : World} {F : Nat → Prop} {μ : Mu} {u : Value}, CRel w F μ (ov C g sk fr x) u → NilRel 4 b u) → Out C (C.env vs) g P k sk fr o id hp R := fun q hq ⟨b, h1, h2⟩ => by
      refine out_pure2 (x := x) (y := y) (s := bin2 op t x y) (by rw [hop]; simp) (by rw [hop]; simp [Op.operands]) (by rw [hop]; simp [Op.operands]) (fun ρ => by simp only [execOp, hop]; rfl) ⟨_, h1, fun {w F μ u v} ha hb => ?_⟩
      obtain ⟨ey, e1, e2⟩ := bin_nil (x := x) hc.1 hc.2 (h2 ha) w
      have hv : v = .nilIface := by
        have hb' : CRel w F μ (.x 11 .lf 0 0 0) v := by rw [ey] at hb; exact hb
        cases hb'; rfl
      subst hv
      rcases hq with ⟨rfl, rfl⟩ | ⟨rfl, rfl⟩
      · exact ⟨_, e1, .bool _⟩
      · exact ⟨_, e2, .bool _⟩
    unfold cBinN at h
    split at h
    · obtain ⟨b, h1, h2⟩ := nilK_out hR (by omega) (c1_out' ok hR h)
      exact fin (fun b => b) (.inl ⟨rfl, rfl⟩) ⟨b, h1, h2⟩
    · obtain ⟨b, h1, h2⟩ := nilK_out hR (by omega) (c1_out' ok hR h)
      exact fin (!·) (.inr ⟨rfl, rfl⟩) ⟨b, by rw [← bnot_eq]; exact h1, h2⟩
    · exact fail_out hR h
  · exact cbinV_out ok hR o hop h
theorem cun_out {op : UnOp} {t : TypeId} {x : Operand} (o : Oper) (hop : o.op = .unOp op t x) (h : (cUn C g P k op x).run sk fr hp = R) : Out C (C.env vs) g P k sk fr o id hp R := by
  have _ := ok
  have fin : ∀ (f : AV → (AV → Res) → Res), (c1 C g P k x f).run sk fr hp = R → (∀ {a : AV} {q : AV → Res}, f a q = R → ∃ v, q v = R ∧ Pure1 C.P (Op.unary op) a v) → Out C (C.env vs) g P k sk fr o id hp R := fun f h H =>
    out_pure1 (s := Op.unary op) (by rw [hop]; simp) (by rw [hop]; simp [Op.operands]) (fun ρ => by simp only [execOp, hop]) (H (rdO_out hR (k := fun a => f a fun v => P.f k sk fr hp v) h))
  cases op with
  | neg => exact fin (fun a k => a.onInt fun i n => intK i (Nat.mod (Nat.sub (md i) n) (md i)) k) h fun h => neg_out hR h
  | xor => exact fin (fun a k => a.onInt fun i n => intK i (Nat.sub (Nat.sub (md i) 1) n) k) h fun h => cpl_out hR h
  | not => exact fin (fun a k => a.onBool fun b => k (.bool (bnot b))) h fun h => not_out hR h
  | _ => exact fail_out hR h
theorem cfieldAddr_out {t : TypeId} {x : Operand} {f : Nat} (o : Oper) (hop : o.op = .fieldAddr t x f) (h : (cFieldAddr C g P k t x f).run sk fr hp = R) : Out C (C.env vs) g P k sk fr o id hp R := by
  have _ := ok
  unfold cFieldAddr at h
  split at h
  · rename_i fs hu
    obtain ⟨hb, h0⟩ := iff_out hR h
    rw [and2_eq, bleN, bleN] at hb
    have h1 := rdO_out hR (k := fun a => fieldAddr (fieldOff fs f) a fun v => P.f k sk fr hp v) h0
    exact out_pure1 (s := fun u => Instr.fieldAt t u f) (by rw [hop]; simp) (by rw [hop]; simp [Op.operands]) (fun ρ => by simp only [execOp, hop]) (fieldAddr_out hR hu hb.1 hb.2 h1)
  · exact fail_out hR h
theorem cfield_out {t : TypeId} {x : Operand} {f : Nat} (o : Oper) (hop : o.op = .field t x f) (h : (cField C g P k t x f).run sk fr hp = R) : Out C (C.env vs) g P k sk fr o id hp R := by
  have _ := ok
  unfold cField at h
  split at h
  · rename_i fs hu
    obtain ⟨hb, h0⟩ := iff_out hR h
    rw [and2_eq, bleN] at hb
    have h1 := rdO_out hR (k := fun a => partK (isAgg C.P (fieldT fs f)) (szOf C.P (fieldT fs f)) (fieldOff fs f) a fun v => P.f k sk fr hp v) h0
    exact out_pure1 (s := fun u => Instr.field t u f) (by rw [hop]; simp) (by rw [hop]; simp [Op.operands]) (fun ρ => by simp only [execOp, hop]) (field_out hR hu hb.1 hb.2 h1)
  · exact fail_out hR h
theorem c2_out {x y : Operand} {f : AV → AV → (AV → Res) → Res} (h : (c2 C g P k x y f).run sk fr hp = R) : f (ov C g sk fr x) (ov C g sk fr y) (fun v => P.f k sk fr hp v) = R := by
  have _ := ok
  have h1 := rdO_out hR (k := fun a => (rdO C g y).get sk fr fun b => f a b fun v => P.f k sk fr hp v) h
  exact rdO_out hR (k := fun b => f (ov C g sk fr x) b fun v => P.f k sk fr hp v) h1
theorem c2h_out {x y : Operand} {f : AV → AV → Hp → (AV → Hp → Res) → Res} (h : (c2h C g P k x y f).run sk fr hp = R) : f (ov C g sk fr x) (ov C g sk fr y) hp (fun v hp => P.f k sk fr hp v) = R := by
  have _ := ok
  have h1 := rdO_out hR (k := fun a => (rdO C g y).get sk fr fun b => f a b hp fun v hp => P.f k sk fr hp v) h
  exact rdO_out hR (k := fun b => f (ov C g sk fr x) b hp fun v hp => P.f k sk fr hp v) h1
theorem cindexAddr_out {t : TypeId} {x i : Operand} (o : Oper) (hop : o.op = .indexAddr t x i) (h : (cIndexAddr C g P k t x i).run sk fr hp = R) : Out C (C.env vs) g P k sk fr o id hp R := by
  have fin : ∀ {v : AV}, _ → _ → _ := fun {v} h H => out_pure2 (C := C) (vs := vs) (g := g) (P := P) (k := k) (R := R) (sk := sk) (fr := fr) (hp := hp) (id := id) (o := o) (x := x) (y := i) (s := Instr.indexAt t) (by rw [hop]; simp) (by rw [hop]; simp [Op.operands]) (by rw [hop]; simp [Op.operands]) (fun ρ => by simp only [execOp, hop]) ⟨v, h, H⟩
  unfold cIndexAddr at h
  split at h
  · rename_i n e hu
    obtain ⟨hb, h0⟩ := iff_out hR h
    rw [bleN] at hb
    obtain ⟨v, h1, H⟩ := indexArr_out hR hu rfl hb (c2_out ok hR h0)
    exact fin h1 H
  · rename_i e hu
    obtain ⟨hb, h0⟩ := iff_out hR h
    rw [bleN] at hb
    obtain ⟨v, h1, H⟩ := indexAddr_out hR hu rfl hb (c2_out ok hR h0)
    exact fin h1 H
  · exact fail_out hR h
theorem cindex_out {t : TypeId} {x i : Operand} (o : Oper) (hop : o.op = .index t x i) (h : (cIndex C g P k t x i).run sk fr hp = R) : Out C (C.env vs) g P k sk fr o id hp R := by
  have fin : ∀ {v : AV}, _ → _ → _ := fun {v} h H => out_pure2 (C := C) (vs := vs) (g := g) (P := P) (k := k) (R := R) (sk := sk) (fr := fr) (hp := hp) (id := id) (o := o) (x := x) (y := i) (s := Instr.index t) (by rw [hop]; simp) (by rw [hop]; simp [Op.operands]) (by rw [hop]; simp [Op.operands]) (fun ρ => by simp only [execOp, hop]) ⟨v, h, H⟩
  unfold cIndex at h
  split at h
  · rename_i n e hu
    obtain ⟨hb, h0⟩ := iff_out hR h
    obtain ⟨v, h1, H⟩ := index_out hR hu hb (c2_out ok hR h0)
    exact fin h1 H
  · rename_i hu
    obtain ⟨v, h1, H⟩ := indexStr_out hR hu (c2_out ok hR h)
    exact fin h1 H
  · exact fail_out hR h
theorem clookup_out {t : TypeId} {x i : Operand} {cm : Bool} (o : Oper) (hop : o.op = .lookup t x i cm) (h : (cLookup C g P k t x i cm).run sk fr hp = R) : Out C (C.env vs) g P k sk fr o id hp R := by
  unfold cLookup at h
  split at h
  · rename_i kt e hu
    split at h
    · exact fail_out hR h
    · rename_i c hk
      obtain ⟨v, h1, hl, H⟩ := lookup_out (V := C.env vs) ok hR (cm := cm) hu hk (m := ov C g sk fr x) (key := ov C g sk fr i) (hp := hp) (k := fun v hp => P.f k sk fr hp v) (c2h_out ok hR h)
      exact ⟨v, hp, 1, h1, Knd.read2 (by rw [hop]; rfl) (by rw [hop]; simp [Op.operands]) (by rw [hop]; simp [Op.operands]) (fun ρ => by simp only [execOp, hop]) hl H, .inr (.inl ⟨rfl, by rw [hop]; rfl⟩), by rw [hop]; simp⟩
  · exact fail_out hR h
theorem cmapUpdate_out {t : TypeId} {m i x : Operand} (o : Oper) (hop : o.op = .mapUpdate t m i x) (h : (cMapUpdate C g P k t m i x).run sk fr hp = R) : Out C (C.env vs) g P k sk fr o id hp R := by
  have hd : ∀ c, o.op ≠ .defer c := by rw [hop]; simp
  unfold cMapUpdate at h
  simp only at h
  split at h
  · rename_i kt e hu
    split at h
    · exact fail_out hR h
    · rename_i c hk
      let body : AV → AV → AV → Res := fun m key v => m.onX fun q _ b _ _ => must (Nat.beq q 4) (notProt b hp (hp.get C.M b fun B => B.onMap fun n t =>
        (findK C.M c n).f t 0 key (fun j => C.M.rs.f t (Nat.succ j) v fun t => hp.put C.M b (.map n t) fun hp => P.f k sk fr hp undefT)
        (C.M.rs.f t (Nat.mul 2 n) key fun t => C.M.rs.f t (Nat.succ (Nat.mul 2 n)) v fun t => hp.put C.M b (.map (Nat.succ n) t) fun hp => P.f k sk fr hp undefT)))
      have h1 := rdO_out hR (k := fun m => (rdO C g i).get sk fr fun key => (rdO C g x).get sk fr fun v => body m key v) h
      have h2 := rdO_out hR (k := fun key => (rdO C g x).get sk fr fun v => body (ov C g sk fr m) key v) h1
      have h3 := rdO_out hR (k := fun v => body (ov C g sk fr m) (ov C g sk fr i) v) h2
      obtain ⟨hp', h4, H⟩ := mapUpdate_out (V := C.env vs) ok hR hu hk (k := fun hp => P.f k sk fr hp undefT) h3
      exact ⟨_, hp', 3, h4, Knd.does hd fun hO _ hH => DoesN.ofU (by simp only [execOp, hop]) (H (hO m (by rw [hop]; simp [Op.operands])) (hO i (by rw [hop]; simp [Op.operands])) (hO x (by rw [hop]; simp [Op.operands])) hH), .inr (.inr (.inr ⟨rfl, by rw [hop]; exact Nat.le_refl _⟩)), hd⟩
  · exact fail_out hR h
theorem cextract_out {x : Operand} {i : Nat} (o : Oper) (hop : o.op = .extract x i) (h : (cExtract C g P k x i).run sk fr hp = R) : Out C (C.env vs) g P k sk fr o id hp R := by
  have _ := ok
  have h1 := rdO_out hR (k := fun v => v.onTup fun t _ => (tget i).get t fr fun v => P.f k sk fr hp v) h
  exact out_pure1 (s := fun u => Instr.extract u i) (by rw [hop]; simp) (by rw [hop]; simp [Op.operands]) (fun ρ => by simp only [execOp, hop]) (extract_out hR h1)
theorem cfunc_out {f : FuncId} {a b : Array Operand} (o : Oper) (hop : o.op = .makeFunc (.func f) a b) (h : (cFunc C g P k f a b).run sk fr hp = R) : Out C (C.env vs) g P k sk fr o id hp R := by
  have _ := ok
  obtain ⟨r, h1, hl, hr⟩ := ak_out hR (l := a.toList ++ b.toList) (k := fun l => P.f k sk fr hp (.x 3 l f a.size b.size)) h
  refine out_pure (by rw [hop]; simp) ⟨_, h1, fun {w F μ ρ} hO => ⟨_, _, ?_, .inl rfl, rel_func (ρ := ρ) hl hr fun x hx => hO x (by rw [hop]; simp only [Op.operands, Array.toList_append]; exact hx)⟩⟩
  simp only [execOp, hop]
  rfl
theorem cmap_out (hN : NSpec N hp id) {t : TypeId} (o : Oper) (hop : o.op = .makeMap t none) (h : (cMakeMap P N k).run sk fr hp = R) : Out C (C.env vs) g P k sk fr o id hp R := by
  obtain ⟨B, hp', h1, hs, hn, H⟩ := mapK_out (V := C.env vs) (M := C.M) ok hR hN (t := t) (k := fun v hp => P.f k sk fr hp v) h
  exact ⟨_, hp', 2, h1, Knd.new (fun _ => ()) (fun ρ => by simp only [execOp, hop]; rfl) (fun _ => trivial) hs hn H, .inr (.inr (.inl ⟨rfl, by rw [hop]; rfl⟩)), by rw [hop]; simp⟩
theorem cmapN_out (hN : NSpec N hp id) {t : TypeId} {x : Operand} (o : Oper) (hop : o.op = .makeMap t (some x)) (h : (cMakeMapN C g P N k t x).run sk fr hp = R) : Out C (C.env vs) g P k sk fr o id hp R := by
  obtain ⟨hb, h0⟩ := iff_out hR h
  have h1 := rdO_out hR (k := fun v => v.onInt fun _ _ => N.f hp (.map 0 .lf) fun id hp => P.f k sk fr hp (.x 4 .lf id 0 0)) h0
  obtain ⟨i, n, hx, h2⟩ := onInt_out hR h1
  obtain ⟨B, hp', h3, hs, hn, H⟩ := mapK_out (V := C.env vs) (M := C.M) ok hR hN (t := t) (k := fun v hp => P.f k sk fr hp v) h2
  refine ⟨_, hp', 2, h3, .make B hs hn fun {w F μ ρ h h'} hO hid hH hs' hn' => ?_, .inr (.inr (.inl ⟨rfl, by rw [hop]; rfl⟩)), by rw [hop]; simp⟩
  obtain ⟨μ', F', w', r, e1, ⟨e2, e3⟩, e4, e5⟩ := H.out (u := ()) (w := w) (F := F) (μ := μ) (h := h) (h' := h') trivial hid hH hs' hn'
  refine ⟨_, r, w', μ', F', ?_, .inl rfl, e2, e3, e4, e5⟩
  have hxx := hO x (by rw [hop]; simp [Op.operands])
  rw [hx] at hxx
  obtain ⟨_, hxv⟩ := inv_int hxx
  have hmap : ∃ a b, und C.P t = some (.map a b) := by
    split at hb
    · exact ⟨_, _, by assumption⟩
    · cases hb
  obtain ⟨a, b, hu⟩ := hmap
  simp only [execOp, hop]
  refine run_value ?_
  rw [← e1]
  simp [Instr.makeMap, run_underlying (und_some hu).1, hxv, asInt, asIntOf]
theorem cmakeSlice_out (hN : NSpec N hp id) {t : TypeId} {x y : Operand} (o : Oper) (hop : o.op = .makeSlice t x y) (h : (cMakeSlice C g P N k t x y).run sk fr hp = R) : Out C (C.env vs) g P k sk fr o id hp R := by
  unfold cMakeSlice at h
  split at h
  · exact fail_out hR h
  · rename_i e hs
    obtain ⟨hb, h0⟩ := iff_out hR h
    rw [and2_eq, and2_eq, bleN, bleN] at hb
    obtain ⟨hz, hzk, hby⟩ := hb
    obtain ⟨B, v, hp', h1, hset, hn, H⟩ := makeK_out (V := C.env vs) hR hN (slT_out ok hR hs) rfl hz hzk hby (k := fun v hp => P.f k sk fr hp v) (c2h_out ok hR h0)
    exact ⟨v, hp', 2, h1, Knd.new (fun ρ => (ρ x, ρ y)) (fun ρ => by simp only [execOp, hop]) (fun hO => ⟨hO x (by rw [hop]; simp [Op.operands]), hO y (by rw [hop]; simp [Op.operands])⟩) hset hn H, .inr (.inr (.inl ⟨rfl, by rw [hop]; rfl⟩)), by rw [hop]; simp⟩
end
end Go.Proofs.YtlffjnddiiojnaaGreatDoor.Ev

/- Slices, conversions, built-in functions. -/
namespace Go.Proofs.YtlffjnddiiojnaaGreatDoor.Ev
section
variable {C : Cx} {vs : Vs} {g : G} {P : Pt} {N : NK} {k : Sm} {R : Res} (ok : MemOk C.M) (hR : R ≠ .fail) {sk : Row} {fr : Fr} {hp : Hp} {id : Nat}
/-- An operand that may be missing. -/
noncomputable def oo (C : Cx) (g : G) (sk : Row) (fr : Fr) (x : Option Operand) : Option AV := x.map (ov C g sk fr)
theorem opt_rel {w : World} {F : Nat → Prop} {μ : Mu} {ρ : Operand → Value} {l : List Operand} (x : Option Operand) (h : ORel w F μ (ov C g sk fr) l ρ) (hm : ∀ y, x = some y → y ∈ l) : OptRel w F μ (oo C g sk fr x) (x.map ρ) := by
  cases x with
  | none => trivial
  | some y => exact h y (hm y rfl)
include hR
theorem optK_out {x : Option Operand} {q : Option AV → Res} (h : (optK C g x).f sk fr q = R) : q (oo C g sk fr x) = R := by
  cases x with
  | none => exact h
  | some y => exact rdO_out hR (k := fun v => q (some v)) h
include ok
theorem c1h_out {x : Operand} {f : AV → Hp → (AV → Hp → Res) → Res} (h : (c1h C g P k x f).run sk fr hp = R) : f (ov C g sk fr x) hp (fun v hp => P.f k sk fr hp v) = R := have _ := ok; 
  rdO_out hR (k := fun a => f a hp fun v hp => P.f k sk fr hp v) h
theorem c1_out {x : Operand} {f : AV → (AV → Res) → Res} (h : (c1 C g P k x f).run sk fr hp = R) : f (ov C g sk fr x) (fun v => P.f k sk fr hp v) = R := have _ := ok; 
  rdO_out hR (k := fun a => f a fun v => P.f k sk fr hp v) h
theorem cslice_out {t : TypeId} {x : Operand} {lo hi mx : Option Operand} (o : Oper) (hop : o.op = .slice t x lo hi mx) (h : (cSlice C g P k t x lo hi mx).run sk fr hp = R) : Out C (C.env vs) g P k sk fr o id hp R := by
  have hd : ∀ c, o.op ≠ .defer c := by rw [hop]; simp
  have mx0 : x ∈ o.op.operands.toList := by rw [hop]; simp [Op.operands]
  have ml : ∀ y, lo = some y → y ∈ o.op.operands.toList := fun y e => by rw [hop]; subst e; simp [Op.operands]
  have mh : ∀ y, hi = some y → y ∈ o.op.operands.toList := fun y e => by rw [hop]; subst e; simp [Op.operands]
  have mm : ∀ y, mx = some y → y ∈ o.op.operands.toList := fun y e => by rw [hop]; subst e; simp [Op.operands]
  have he : ∀ ρ, execOp ρ o = (do Pure.pure (.value (← Instr.sliceAt t (ρ x) (lo.map ρ) (hi.map ρ) (mx.map ρ)))) := fun ρ => by simp only [execOp, hop]
  have pure : (∃ v, P.f k sk fr hp v = R ∧ PureS C.P (Instr.sliceAt t) (ov C g sk fr x) (oo C g sk fr lo) (oo C g sk fr hi) (oo C g sk fr mx) v) → Out C (C.env vs) g P k sk fr o id hp R := fun ⟨v, h1, H⟩ => out_pure hd ⟨v, h1, fun {w F μ ρ} hO => by
    obtain ⟨r, e1, e2⟩ := H (hO x mx0) (opt_rel lo hO ml) (opt_rel hi hO mh) (opt_rel mx hO mm)
    exact ⟨_, r, by rw [he]; exact run_value e1, .inl rfl, e2⟩⟩
  unfold cSlice at h
  simp only at h
  split at h
  · rename_i n e hu
    obtain ⟨hb, h0⟩ := iff_out hR h
    rw [bleN] at hb
    let body : AV → Option AV → Option AV → Option AV → Res := fun v l h m => v.onPtr (fun b o => hp.use C.M b (Nat.add o (Nat.mul n (szOf C.P e))) fun _ _ _ _ _ => sliceK (szOf C.P e) (.ms b o n (szOf C.P e)) l h m fun v => P.f k sk fr hp v)
      (fun t o c y => must (Nat.beq y (szOf C.P e)) (must (Nat.beq (Nat.mod o (szOf C.P e)) 0) (must (Nat.ble (Nat.mul n (szOf C.P e)) c) (sliceK (szOf C.P e) (.vs t (Nat.div o (szOf C.P e)) n (szOf C.P e)) l h m fun v => P.f k sk fr hp v))))
    have h1 := rdO_out hR (k := fun v => (optK C g lo).f sk fr fun l => (optK C g hi).f sk fr fun h => (optK C g mx).f sk fr fun m => body v l h m) h0
    have h2 := optK_out hR (q := fun l => (optK C g hi).f sk fr fun h => (optK C g mx).f sk fr fun m => body (ov C g sk fr x) l h m) h1
    have h3 := optK_out hR (q := fun h => (optK C g mx).f sk fr fun m => body (ov C g sk fr x) (oo C g sk fr lo) h m) h2
    have h4 := optK_out hR (q := fun m => body (ov C g sk fr x) (oo C g sk fr lo) (oo C g sk fr hi) m) h3
    rcases onPtr_out hR h4 with ⟨b, o', hx, h5⟩ | ⟨tt, o', c, y, hx, h5⟩
    · obtain ⟨v, h6, hl, H⟩ := sliceArr_out (V := C.env vs) ok hR hu rfl hb h5
      refine ⟨v, hp, 1, h6, .read x rfl (by rw [hop]; rfl) mx0 (by rw [hx]; exact hl) fun {w F μ ρ} hO hro => ?_, .inr (.inl ⟨rfl, by rw [hop]; simp only [cls, hu]⟩), hd⟩
      rw [hx] at hro
      obtain ⟨r, e1, e2⟩ := H (by rw [← hx]; exact hO x mx0) (opt_rel lo hO ml) (opt_rel hi hO mh) (opt_rel mx hO mm) hro
      exact ⟨_, r, by rw [he]; exact run_value e1, .inl rfl, e2⟩
    · obtain ⟨v, h6, H⟩ := sliceArrV_out (V := C.env vs) hR hu rfl hb h5
      exact pure ⟨v, h6, by rw [hx]; exact H⟩
  · rename_i e hu
    obtain ⟨hb, h0⟩ := iff_out hR h
    rw [bleN] at hb
    let body : AV → Option AV → Option AV → Option AV → Res := fun v l h m => sliceK (szOf C.P e) v l h m fun v => P.f k sk fr hp v
    have h1 := rdO_out hR (k := fun v => (optK C g lo).f sk fr fun l => (optK C g hi).f sk fr fun h => (optK C g mx).f sk fr fun m => body v l h m) h0
    have h2 := optK_out hR (q := fun l => (optK C g hi).f sk fr fun h => (optK C g mx).f sk fr fun m => body (ov C g sk fr x) l h m) h1
    have h3 := optK_out hR (q := fun h => (optK C g mx).f sk fr fun m => body (ov C g sk fr x) (oo C g sk fr lo) h m) h2
    have h4 := optK_out hR (q := fun m => body (ov C g sk fr x) (oo C g sk fr lo) (oo C g sk fr hi) m) h3
    exact pure (sliceK_out hR hu rfl hb h4)
  · rename_i hu
    obtain ⟨hb, h0⟩ := iff_out hR h
    cases mx with
    | some y => cases hb
    | none =>
      let body : AV → Option AV → Option AV → Res := fun v l h => sliceS v l h fun v => P.f k sk fr hp v
      have h1 := rdO_out hR (k := fun v => (optK C g lo).f sk fr fun l => (optK C g hi).f sk fr fun h => body v l h) h0
      have h2 := optK_out hR (q := fun l => (optK C g hi).f sk fr fun h => body (ov C g sk fr x) l h) h1
      have h3 := optK_out hR (q := fun h => body (ov C g sk fr x) (oo C g sk fr lo) h) h2
      exact pure (sliceS_out hR hu h3)
  · exact fail_out hR h
theorem cconv_out (hN : NSpec N hp id) {s d : TypeId} {x : Operand} (o : Oper) (hop : o.op = .convert s d x) (h : (cConv C g P N k s d x).run sk fr hp = R) : Out C (C.env vs) g P k sk fr o id hp R := by
  have hd : ∀ c, o.op ≠ .defer c := by rw [hop]; simp
  have hx : x ∈ o.op.operands.toList := by rw [hop]; simp [Op.operands]
  have he : ∀ ρ, execOp ρ o = (do Pure.pure (.value (← convert s d (ρ x)))) := fun ρ => by simp only [execOp, hop]
  unfold cConv at h
  split at h
  · rename_i k1 k2 h1 h2
    exact out_pure1 hd hx he (cvt_out hR h1 h2 (c1_out ok hR h))
  · rename_i h1 h2
    obtain ⟨s', n, hs, h4⟩ := onStr_out hR (c1_out ok hR h)
    refine out_pure1 (s := convert s d) hd hx he ⟨_, h4, fun {w F μ u} ha => ?_⟩
    rw [hs] at ha
    obtain ⟨B, rfl, _⟩ := inv_str ha
    exact ⟨.string B, by simp [convert, run_underlying (und_some h1).1, run_underlying (und_some h2).1], ha⟩
  · rename_i e h1 h2
    obtain ⟨he8, h3⟩ := iff_out hR h
    obtain ⟨B, v, hp', h4, hs, hn, H⟩ := strBytes_out (V := C.env vs) ok hR hN h1 he8 h2 (k := fun v hp => P.f k sk fr hp v) (c1h_out ok hR h3)
    exact ⟨v, hp', 2, h4, Knd.new (fun ρ => ρ x) he (fun hO => hO x hx) hs hn H, .inr (.inr (.inl ⟨rfl, by rw [hop]; simp only [cls, h1, h2]⟩)), hd⟩
  · rename_i e h1 h2
    obtain ⟨he8, h3⟩ := iff_out hR h
    have h4 := c1h_out ok hR h3
    have hcls : cls C.P o.op = 1 := by rw [hop]; simp only [cls, h1, h2]
    have fin : ((∃ b o n z, ov C g sk fr x = .ms b o n z) ∨ ∃ t o n z, ov C g sk fr x = .vs t o n z) → (seqK C.M 1 (ov C g sk fr x) hp fun t o n _ => (pack C.M n).f t o fun s => P.f k sk fr hp (.str s n)) = R → Out C (C.env vs) g P k sk fr o id hp R := fun hsl h5 => by
      obtain ⟨v, h6, hl, H⟩ := bytesStr_out (V := C.env vs) ok hR h1 he8 h2 hsl (k := fun v => P.f k sk fr hp v) h5
      exact ⟨v, hp, 1, h6, Knd.read1 (by rw [hop]; rfl) hx he hl H, .inr (.inl ⟨rfl, hcls⟩), hd⟩
    rcases onSlice_out hR h4 with ⟨b, o', n, y, hv, h5⟩ | ⟨tt, o', n, y, hv, h5⟩ | ⟨i, tt, a', b', c, hv, h5⟩ | ⟨s', n, hv, h5⟩
    · exact fin (.inl ⟨b, o', n, y, hv⟩) h5
    · exact fin (.inr ⟨tt, o', n, y, hv⟩) h5
    · obtain ⟨hg, h6⟩ := must_out hR h5
      rw [Bool.or_eq_true, beqN, beqN] at hg
      refine out_pure1 (s := convert s d) hd hx he ⟨_, h6, fun {w F μ u} ha => ?_⟩
      rw [hv] at ha
      have hempty : CRel w F μ (.str 0 0) (.string ByteArray.empty) := rel_str rfl rfl
      rcases hg with rfl | rfl
      · cases ha
        exact ⟨_, by simp [convert, run_underlying (und_some h1).1, run_underlying (und_some h2).1, run_underlying (isU8_out he8), Conv.bytesToString], hempty⟩
      · cases ha
        exact ⟨_, by simp [convert, run_underlying (und_some h1).1, run_underlying (und_some h2).1, run_underlying (isU8_out he8), Conv.bytesToString]; rfl, hempty⟩
    · exact fail_out hR h5
  · rename_i e' e h1 h2
    obtain ⟨hb, h3⟩ := iff_out hR h
    rw [and2_eq, beqN] at hb
    obtain ⟨rfl, he8⟩ := hb
    obtain ⟨h4, H⟩ := mark_out (V := C.env vs) ok hR h2 he8 (k := fun v hp => P.f k sk fr hp v) (c1h_out ok hR h3)
    refine ⟨_, hp, 3, h4, Knd.does hd fun {w F μ ρ} hO _ hH => DoesN.of (he ρ) (H (hO x hx) hH) fun w' F' μ' r h => ?_, .inr (.inr (.inr ⟨rfl, by rw [hop]; simp only [cls, h1]; decide⟩)), hd⟩
    obtain ⟨q1, rfl⟩ := h
    exact ⟨q1, InId.refl _ _⟩
  · exact fail_out hR h
omit ok hR in
theorem rel_goInt {w : World} {F : Nat → Prop} {μ : Mu} {n : Nat} (h : n ≤ 9223372036854775807) : CRel w F μ (.int 3 n) (goInt (n : Nat)) := by
  have := rel_int (w := w) (F := F) (μ := μ) (i := 3) (n := n) (by show n < 18446744073709551616; omega)
  rw [T_nonneg 3 n (by show n < 18446744073709551616; omega) (.inr (by show n < 9223372036854775808; omega))] at this
  exact this
theorem cbuiltin_out (hN : NSpec N hp id) {b : Builtin} {ts : Array TypeId} {as : Array Operand} (o : Oper) (hop : o.op = .call ⟨.builtin b, as, ts⟩) (h : (cBuiltin C g P N k b ts.toList as.toList).run sk fr hp = R) : Out C (C.env vs) g P k sk fr o id hp R := by
  have hd : ∀ c, o.op ≠ .defer c := by rw [hop]; simp
  have mem : ∀ x ∈ as.toList, x ∈ o.op.operands.toList := fun x hx => by rw [hop]; simpa [Op.operands, Call.operands] using hx
  have h0 : ∀ {t r}, ts.toList = t :: r → ts[0]? = some t := fun e => by rw [← Array.getElem?_toList, e]; rfl
  have he0 : ∀ ρ, execOp ρ o = builtin b ts o.type (as.map fun | .const _ => true | _ => false) (as.map ρ) := fun ρ => by
    simp only [execOp, hop]; rfl
  unfold cBuiltin at h
  split at h
  · -- len
    rename_i t r x hts has
    have hmap : ∀ ρ : Operand → Value, as.map ρ = #[ρ x] := fun ρ => by rw [← Array.toList_inj, Array.toList_map, has]; rfl
    have he : ∀ ρ, execOp ρ o = (do Pure.pure (.value (← Builtin.len_ ts o.type #[ρ x]))) := fun ρ => by rw [he0, hmap]; rfl
    have hx := mem x (by rw [has]; exact List.mem_cons_self ..)
    have fin : ∀ q, (q = 0 ∧ und C.P t = some .string) ∨ (q = 1 ∧ ∃ e, und C.P t = some (.slice e)) ∨ (q = 2 ∧ ∃ a b, und C.P t = some (.map a b)) → (cLen C g P k q x).run sk fr hp = R → Out C (C.env vs) g P k sk fr o id hp R := fun q hq h => by
      have h1 := rdO_out hR (k := fun a => lenK C.M q a hp fun n => must (Nat.ble n 9223372036854775807) (P.f k sk fr hp (.int 3 n))) h
      obtain ⟨n, h2, hl, H⟩ := lenK_out hR ok (V := C.env vs) (ts := ts) (ty := o.type) (h0 hts) hq h1
      obtain ⟨hn, h3⟩ := must_out hR h2
      rw [bleN] at hn
      by_cases e2 : q = 2
      · obtain ⟨a, b, hm⟩ : ∃ a b, und C.P t = some (.map a b) := by
          rcases hq with ⟨h, _⟩ | ⟨h, _⟩ | ⟨_, h⟩
          · omega
          · omega
          · exact h
        have has0 : as[0]? = some x := by rw [← Array.getElem?_toList, has]; rfl
        have hts0 : ts.getD 0 0 = t := by rw [Array.getD_eq_getD_getElem?, h0 hts]; rfl
        exact ⟨_, hp, 1, h3, .read x rfl (by rw [hop]; exact has0) hx (hl e2) fun {w F μ ρ} hO hro => ⟨_, _, by rw [he]; exact run_value (H (hO x hx) fun _ => hro), .inl rfl, rel_goInt hn⟩, .inr (.inl ⟨rfl, by rw [hop]; simp only [cls, hts0, hm]⟩), hd⟩
      · exact out_pure hd ⟨_, h3, fun {w F μ ρ} hO => ⟨_, _, by rw [he]; exact run_value (H (hO x hx) fun e => absurd e e2), .inl rfl, rel_goInt hn⟩⟩
    split at h
    · rename_i n e hu
      obtain ⟨hn, h1⟩ := iff_out hR h
      rw [bleN] at hn
      exact out_pure hd ⟨_, h1, fun {w F μ ρ} hO => ⟨_, goInt (n : Nat), by rw [he]; exact run_value (by simp [Builtin.len_, h0 hts, run_underlying (und_some hu).1]), .inl rfl, rel_goInt hn⟩⟩
    · rename_i hu; exact fin 0 (.inl ⟨rfl, hu⟩) h
    · rename_i e hu; exact fin 1 (.inr (.inl ⟨rfl, e, hu⟩)) h
    · rename_i a b hu; exact fin 2 (.inr (.inr ⟨rfl, a, b, hu⟩)) h
    · exact fail_out hR h
  · -- append
    rename_i t u x y hts has
    have hmap : ∀ ρ : Operand → Value, as.map ρ = #[ρ x, ρ y] := fun ρ => by rw [← Array.toList_inj, Array.toList_map, has]; rfl
    have htl : ts = #[t, u] := by rw [← Array.toList_inj, hts]
    have he : ∀ ρ, execOp ρ o = (do Pure.pure (.value (← Builtin.append_ #[t, u] o.type #[ρ x, ρ y]))) := fun ρ => by rw [he0, hmap, htl]; rfl
    have hx := mem x (by rw [has]; exact List.mem_cons_self ..)
    have hy := mem y (by rw [has]; exact List.mem_cons_of_mem _ (List.mem_cons_self ..))
    split at h
    · rename_i e hs
      obtain ⟨hb, h1⟩ := iff_out hR h
      rw [and2_eq, and2_eq, bleN, bleN] at hb
      obtain ⟨hby, hz, hzk⟩ := hb
      split at h1
      · rename_i kk hu
        obtain ⟨B, v, hp', h2, hs2, hid2, H⟩ := appendZ_out (V := C.env vs) hR hN (ty := o.type) (slT_out ok hR hs) hu rfl hz hzk hby (k := fun v hp => P.f k sk fr hp v) (c2h_out ok hR h1)
        exact ⟨v, hp', 3, h2, Knd.does hd fun {w F μ ρ} hO hid hH => by
          obtain ⟨μ', F', w', r, r1, ⟨r2, r3⟩, r4, r5⟩ := H.out (u := (ρ x, ρ y)) ⟨hO x hx, hO y hy⟩ hid hH hs2 hid2
          exact ⟨_, r, w', μ', F', by rw [he]; exact run_value r1, .inl rfl, r2, r3, r4, r5⟩, .inr (.inr (.inr ⟨rfl, by rw [hop]; exact Nat.le_refl _⟩)), hd⟩
      · obtain ⟨hk, h1⟩ := iff_out hR h1
        obtain ⟨v, hp', h2, H⟩ := appendK_out (V := C.env vs) ok hR hN (ty := o.type) (slT_out ok hR hs) (isSeq_out hk) hzk hz rfl hby (k := fun v hp => P.f k sk fr hp v) (c2h_out ok hR h1)
        exact ⟨v, hp', 3, h2, Knd.does hd fun {w F μ ρ} hO hid hH => DoesN.of (he ρ) (H (hO x hx) (hO y hy) hH hid) fun w' F' μ' r h => h, .inr (.inr (.inr ⟨rfl, by rw [hop]; exact Nat.le_refl _⟩)), hd⟩
    · exact fail_out hR h
  · -- cap
    rename_i t r x hts has
    have hmap : ∀ ρ : Operand → Value, as.map ρ = #[ρ x] := fun ρ => by rw [← Array.toList_inj, Array.toList_map, has]; rfl
    have he : ∀ ρ, execOp ρ o = (do Pure.pure (.value (← Builtin.cap_ ts o.type #[ρ x]))) := fun ρ => by rw [he0, hmap]; rfl
    have hx := mem x (by rw [has]; exact List.mem_cons_self ..)
    split at h
    · rename_i e hs
      have h1 := c1_out ok hR h
      obtain ⟨q, u1, u2, u3, u4, hv, h2⟩ := onX_out hR h1
      obtain ⟨hq, h3⟩ := must_out hR h2
      exact out_pure hd ⟨_, h3, fun {w F μ ρ} hO => ⟨_, goInt (0 : Nat), by
        have hr := hO x hx
        rw [hv] at hr
        have hq' : q = 8 ∨ q = 6 := by simpa [Bool.or_eq_true, beqN] using hq
        have : ∃ b, ρ x = .slice b 0 0 := by
          rcases hq' with rfl | rfl
          · generalize ρ x = rx at hr; cases hr; exact ⟨_, rfl⟩
          · generalize ρ x = rx at hr; cases hr; exact ⟨_, rfl⟩
        obtain ⟨b, hb⟩ := this
        rw [he, hb]
        exact run_value (by simp [Builtin.cap_, h0 hts, run_underlying (und_some (slT_out ok hR hs)).1]), .inl rfl, rel_goInt (by omega)⟩⟩
    · exact fail_out hR h
  · -- copy
    rename_i t r x y hts has
    have hmap : ∀ ρ : Operand → Value, as.map ρ = #[ρ x, ρ y] := fun ρ => by rw [← Array.toList_inj, Array.toList_map, has]; rfl
    have he : ∀ ρ, execOp ρ o = (do Pure.pure (.value (← Builtin.copy_ ts o.type #[ρ x, ρ y]))) := fun ρ => by rw [he0, hmap]; rfl
    have hx := mem x (by rw [has]; exact List.mem_cons_self ..)
    have hy := mem y (by rw [has]; exact List.mem_cons_of_mem _ (List.mem_cons_self ..))
    split at h
    · rename_i e hs
      obtain ⟨hz, h1⟩ := iff_out hR h
      rw [bleN] at hz
      obtain ⟨n, hp', h2, H⟩ := copyK_out (V := C.env vs) ok hR (ty := o.type) (h0 hts) (slT_out ok hR hs) hz (k := fun n hp => must (Nat.ble n 9223372036854775807) (P.f k sk fr hp (.int 3 n))) (c2h_out ok hR h1)
      obtain ⟨hn, h3⟩ := must_out hR h2
      rw [bleN] at hn
      exact ⟨_, hp', 3, h3, Knd.does hd fun {w F μ ρ} hO hid hH => DoesN.of (he ρ) (H (hO x hx) (hO y hy) hH) fun w' F' μ' r h => by
        obtain ⟨rfl, rfl⟩ := h
        exact ⟨rel_goInt hn, InId.refl _ _⟩, .inr (.inr (.inr ⟨rfl, by rw [hop]; exact Nat.le_refl _⟩)), hd⟩
    · exact fail_out hR h
  · -- clear
    rename_i t r x hts has
    have hmap : ∀ ρ : Operand → Value, as.map ρ = #[ρ x] := fun ρ => by rw [← Array.toList_inj, Array.toList_map, has]; rfl
    have he : ∀ ρ, execOp ρ o = (do Pure.pure (.value (← Builtin.clear_ ts o.type #[ρ x]))) := fun ρ => by rw [he0, hmap]; rfl
    have hx := mem x (by rw [has]; exact List.mem_cons_self ..)
    split at h
    · rename_i e hs
      obtain ⟨hb, h1⟩ := iff_out hR h
      rw [and2_eq, bleN] at hb
      obtain ⟨hp', h2, H⟩ := clearK_out (V := C.env vs) ok hR (ty := o.type) (h0 hts) (slT_out ok hR hs) hb.1 hb.2 (k := fun hp => P.f k sk fr hp undefT) (c1h_out ok hR h1)
      exact ⟨_, hp', 3, h2, Knd.does hd fun {w F μ ρ} hO hid hH => DoesN.of (he ρ) (H (hO x hx) hH) fun w' F' μ' r h => by
        obtain ⟨rfl, rfl⟩ := h
        exact ⟨rel_undef, InId.refl _ _⟩, .inr (.inr (.inr ⟨rfl, by rw [hop]; exact Nat.le_refl _⟩)), hd⟩
    · exact fail_out hR h
  · rename_i x y has
    have hmap : ∀ ρ : Operand → Value, as.map ρ = #[ρ x, ρ y] := fun ρ => by rw [← Array.toList_inj, Array.toList_map, has]; rfl
    exact out_pure2 (s := fun u u' => Builtin.min_ ts o.type #[u, u']) hd (mem x (by rw [has]; exact List.mem_cons_self ..)) (mem y (by rw [has]; exact List.mem_cons_of_mem _ (List.mem_cons_self ..))) (fun ρ => by rw [he0, hmap]; rfl) (min_out hR ts o.type (c2_out ok hR h))
  · rename_i x y has
    have hmap : ∀ ρ : Operand → Value, as.map ρ = #[ρ x, ρ y] := fun ρ => by rw [← Array.toList_inj, Array.toList_map, has]; rfl
    exact out_pure2 (s := fun u u' => Builtin.max_ ts o.type #[u, u']) hd (mem x (by rw [has]; exact List.mem_cons_self ..)) (mem y (by rw [has]; exact List.mem_cons_of_mem _ (List.mem_cons_self ..))) (fun ρ => by rw [he0, hmap]; rfl) (max_out hR ts o.type (c2_out ok hR h))
  · exact fail_out hR h
/-- All operations but calls of functions. -/
theorem denOp_out (hN : NSpec N hp id) (o : Oper) (hcall : ∀ f as ts, o.op = .call ⟨.value f, as, ts⟩ → (cCall C g P k f as).run sk fr hp = R → Out C (C.env vs) g P k sk fr o id hp R) (h : (denOp C g P N k o.op).run sk fr hp = R) : Out C (C.env vs) g P k sk fr o id hp R := by
  cases hop : o.op <;> rw [hop] at h <;> first | exact fail_out hR h | skip
  case move x => exact move_out ok hR o (.inl hop) h
  case assign x => exact move_out ok hR o (.inr hop) h
  case pick c a b => exact pick_out ok hR o hop h
  case alloc t => exact alloc'_out ok hR hN o hop h
  case box t x => exact box_out ok hR hN o hop h
  case build t ps => exact cbuild_out ok hR o hop h
  case buildSlice t n ps => exact cbuildSlice_out ok hR hN o hop h
  case load t a => exact cload_out ok hR o hop h
  case store t a x => exact cstore_out ok hR o hop h
  case nilCheck x => exact cnil_out ok hR o hop h
  case binOp op t x y u => exact cbin_out ok hR o hop h
  case unOp op t x => exact cun_out ok hR o hop h
  case convert s d x => exact cconv_out ok hR hN o hop h
  case makeFunc f a b =>
    cases f with
    | func f => exact cfunc_out ok hR o hop h
    | _ => exact fail_out hR h
  case makeMap t r =>
    cases r with
    | none => exact cmap_out ok hR hN o hop h
    | some x => exact cmapN_out ok hR hN o hop h
  case makeSlice t a b => exact cmakeSlice_out ok hR hN o hop h
  case slice t x lo hi mx => exact cslice_out ok hR o hop h
  case fieldAddr t x f => exact cfieldAddr_out ok hR o hop h
  case field t x f => exact cfield_out ok hR o hop h
  case indexAddr t x i => exact cindexAddr_out ok hR o hop h
  case index t x i => exact cindex_out ok hR o hop h
  case lookup t x i cm => exact clookup_out ok hR o hop h
  case mapUpdate t m i x => exact cmapUpdate_out ok hR o hop h
  case extract x i => exact cextract_out ok hR o hop h
  case call c =>
    obtain ⟨cal, as, ts⟩ := c
    cases cal with
    | value f => exact hcall f as ts hop h
    | invoke r m => exact fail_out hR h
    | builtin b => exact cbuiltin_out ok hR hN o hop h
end
end Go.Proofs.YtlffjnddiiojnaaGreatDoor.Ev
