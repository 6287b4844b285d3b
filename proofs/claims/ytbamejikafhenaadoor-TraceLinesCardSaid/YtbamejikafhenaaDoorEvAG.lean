import Derived.Test.YtbamejikafhenaaDoorEvAF
import Derived.OrdersIn
namespace Go.Proofs.YtbamejikafhenaaDoor.Ev
def KAt (c : Nat) (v : Value) : Prop := match c with
  | 0 => ∃ b, v = .bool b
  | 1 => ∃ s, v = .string s
  | q + 2 => ∃ n, v = .int (kd q) n
theorem a3y (x y : ByteArray) : (x.toList == y.toList) = true ↔ x = y := by
  rw [ByteArray.toList_eq, ByteArray.toList_eq, beq_iff_eq]
  constructor
  · intro h
    obtain ⟨⟨a⟩⟩ := x
    obtain ⟨⟨b⟩⟩ := y
    simp only at h
    rw [h]
  · rintro rfl; rfl
section
variable {R : aa} (hR : R ≠ .fail)
include hR in
theorem wG {c : Nat} {a b : AV} {k : Bool → aa} (g : qA c a b k = R) : ∃ r, k r = R ∧ ∀ {w : World} {F : Nat → Prop} {μ : Mu} {u v : Value}, ao w F μ a u → ao w F μ b v → KAt c u ∧ KAt c v ∧ (r = true ↔ u = v) := by
  match c with
  | 0 =>
    obtain ⟨x, rfl, g2⟩ := kP hR g
    obtain ⟨y, rfl, g3⟩ := kP hR g2
    rw [km] at g3
    refine ⟨_, g3, fun {w F μ u v} ha hb => ?_⟩
    rw [jz ha, jz hb]
    refine ⟨⟨_, rfl⟩, ⟨_, rfl⟩, ?_⟩
    rw [fA, vM]
    cases x <;> cases y <;> simp
  | 1 =>
    obtain ⟨s, n, t, m, rfl, rfl, g2⟩ := sw hR g
    rw [km] at g2
    refine ⟨_, g2, fun {w F μ u v} ha hb => ?_⟩
    obtain ⟨x, rfl, rfl, rfl⟩ := iF ha
    obtain ⟨y, rfl, rfl, rfl⟩ := iF hb
    refine ⟨⟨_, rfl⟩, ⟨_, rfl⟩, ?_⟩
    rw [oB, a3y]
    simp
  | q + 2 =>
    obtain ⟨x, y, rfl, rfl, g2⟩ := cT hR g
    rw [km] at g2
    refine ⟨_, g2, fun {w F μ u v} ha hb => ?_⟩
    obtain ⟨h1, rfl⟩ := ga ha
    obtain ⟨h2, rfl⟩ := ga hb
    refine ⟨⟨_, rfl⟩, ⟨_, rfl⟩, ?_⟩
    rw [aF, Value.int.injEq, a2J q x y h1 h2]
    simp
include hR in
theorem a8j : ∀ {l : List Nat} {t u : Row} {k : Bool → aa}, eqs l t u k = R → ∃ r, k r = R ∧ ∀ {w : World} {F : Nat → Prop} {μ : Mu} {us vs : Nat → Value}, (∀ i, i < l.length → ao w F μ (nth t i) (us i) ∧ ao w F μ (nth u i) (vs i)) →
    (∀ i c, l[i]? = some c → KAt c (us i) ∧ KAt c (vs i)) ∧ (r = true ↔ ∀ i, i < l.length → us i = vs i)
  | [], t, u, k, g => ⟨true, g, fun _ => ⟨fun i c h => by simp at h, by simp⟩⟩
  | c :: l, t, u, k, g => by
    cases t with
    | lf => exact an hR g
    | nd a tl tr =>
      cases u with
      | lf => exact an hR g
      | nd b ul ur =>
        obtain ⟨r, g, h1⟩ := wG hR g
        obtain ⟨r2, g, h2⟩ := a8j g
        refine ⟨_, g, fun {w F μ us vs} h => ?_⟩
        obtain ⟨q1, q2, q3⟩ := h1 (h 0 (Nat.succ_pos _)).1 (h 0 (Nat.succ_pos _)).2
        obtain ⟨p1, p2⟩ := h2 (us := fun i => us (i + 1)) (vs := fun i => vs (i + 1)) fun i hi => h (i + 1) (Nat.succ_lt_succ hi)
        refine ⟨fun i c' hc => ?_, ?_⟩
        · cases i with
          | zero => simp at hc; subst hc; exact ⟨q1, q2⟩
          | succ i => exact p1 i c' (by simpa using hc)
        · rw [cI, q3, p2]
          constructor
          · rintro ⟨e1, e2⟩ i hi
            cases i with
            | zero => exact e1
            | succ i => exact e2 i (Nat.lt_of_succ_lt_succ hi)
          · intro e
            exact ⟨e 0 (Nat.succ_pos _), fun i hi => e (i + 1) (Nat.succ_lt_succ hi)⟩
end
section
variable {P : Program}
theorem a1r (a b : List Nat) : yR a b = a ++ b := by
  induction a with
  | nil => rfl
  | cons x a ih => exact congrArg (x :: ·) ih
theorem aaO {n : Nat} {o : Option (List Nat)} {l : List Nat} (h : chkO n o = some l) : o = some l ∧ l.length = n := by
  cases o with
  | none => cases h
  | some a =>
    have h' : (Bool.rec (motive := fun _ => Option (List Nat)) none (some a) (Nat.beq a.length n) : Option (List Nat)) = some l := h
    rw [eF] at h'
    split at h'
    · rename_i hb; rw [aF] at hb; cases h'; exact ⟨rfl, hb⟩
    · cases h'
def mE (l : List Nat) (xs : Array Value) (o : Nat) : Prop := ∀ i c, l[i]? = some c → ∃ v, xs[o + i]? = some v ∧ KAt c v
theorem mE.left {a b : List Nat} {xs : Array Value} {o : Nat} (h : mE (a ++ b) xs o) : mE a xs o := fun i c hc => h i c (by
  obtain ⟨hi, _⟩ := List.getElem?_eq_some_iff.1 hc
  rw [List.getElem?_append_left hi]; exact hc)
theorem mE.right {a b : List Nat} {xs : Array Value} {o : Nat} (h : mE (a ++ b) xs o) : mE b xs (o + a.length) := fun i c hc => by
  obtain ⟨v, h1, h2⟩ := h (a.length + i) c (by rw [List.getElem?_append_right (by omega), Nat.add_sub_cancel_left]; exact hc)
  exact ⟨v, by rw [Nat.add_assoc]; exact h1, h2⟩
def a5b (xs ys : Array Value) (o n : Nat) : Prop := ∀ i, i < n → xs[o + i]? = ys[o + i]?
theorem ru {xs ys : Array Value} {o n m : Nat} : a5b xs ys o (n + m) ↔ a5b xs ys o n ∧ a5b xs ys (o + n) m :=
  ⟨fun h => ⟨fun i hi => h i (by omega), fun i hi => by rw [Nat.add_assoc]; exact h (n + i) (by omega)⟩, fun ⟨h1, h2⟩ i hi => by
    by_cases e : i < n
    · exact h1 i e
    · have := h2 (i - n) (by omega)
      rw [show o + n + (i - n) = o + i by omega] at this; exact this⟩
def a9M (P : Program) (t : TypeId) (l : List Nat) (D : Nat) : Prop :=
  l.length = bw P t ∧ (∃ d i, eI P t = some d ∧ eT P t = some i) ∧
  (isAgg P t = false → ∃ c, l = [c] ∧ ∀ w v v', KAt c v → KAt c v' → ∃ r, (Op.equalIn D t v v').run P w = .ok r w ∧ (r = true ↔ v = v')) ∧
  (isAgg P t = true → ∀ w xs ys, mE l xs 0 → mE l ys 0 → ∃ r, (Op.equalIn D t (.agg xs) (.agg ys)).run P w = .ok r w ∧ (r = true ↔ a5b xs ys 0 l.length))
theorem a9M.part {t : TypeId} {l : List Nat} {D : Nat} (h : a9M P t l D) (w : World) {xs ys : Array Value} {o : Nat} (hx : mE l xs o) (hy : mE l ys o) :
    ∃ a b r, (part t xs o).run P w = .ok a w ∧ (part t ys o).run P w = .ok b w ∧ (Op.equalIn D t a b).run P w = .ok r w ∧ (r = true ↔ a5b xs ys o l.length) := by
  obtain ⟨hl, ⟨d, i, hd, hi⟩, hA, hB⟩ := h
  cases hag : isAgg P t with
  | false =>
    obtain ⟨c, rfl, hc⟩ := hA hag
    obtain ⟨v, hv, kv⟩ := hx 0 c rfl
    obtain ⟨v', hv', kv'⟩ := hy 0 c rfl
    obtain ⟨r, h1, h2⟩ := hc w v v' kv kv'
    rw [Nat.add_zero] at hv hv'
    have run : ∀ {zs : Array Value} {z : Value}, zs[o]? = some z → (Go.part t zs o).run P w = .ok z w := fun hz => by
      unfold Go.part
      rw [Sem.run_bind, uu hag ⟨i, hi⟩ w ⟨d, hd⟩]
      simp [hz]
    refine ⟨v, v', r, run hv, run hv', h1, h2.trans ⟨fun e j hj => ?_, fun e => ?_⟩⟩
    · have : j = 0 := by simp at hj; exact hj
      subst this
      rw [Nat.add_zero, hv, hv', e]
    · have := e 0 (by simp)
      rw [Nat.add_zero, hv, hv'] at this
      exact Option.some.inj this
  | true =>
    have run : ∀ zs : Array Value, (Go.part t zs o).run P w = .ok (.agg (zs.extract o (o + l.length))) w := fun zs => by
      obtain ⟨d', hd', hrow, _⟩ := qD hag
      have hagr : (Go.isAgg t).run P w = .ok true w := by
        unfold Go.isAgg
        rw [Sem.run_bind, vL hd']
        cases d' <;> first | rfl | cases hrow
      unfold Go.part
      rw [Sem.run_bind, hagr]
      simp [ahr hi, hl]
    have ex : ∀ {zs : Array Value}, mE l zs o → ∀ j, j < l.length → (zs.extract o (o + l.length))[0 + j]? = zs[o + j]? := fun {zs} hz j hj => by
      obtain ⟨v, hv, _⟩ := hz j l[j] (List.getElem?_eq_getElem hj)
      have hlt := (Array.getElem?_eq_some_iff.1 hv).1
      rw [Nat.zero_add, Array.getElem?_extract, if_pos (by omega)]
    have exK : ∀ {zs : Array Value}, mE l zs o → mE l (zs.extract o (o + l.length)) 0 := fun {zs} hz j c hc => by
      obtain ⟨v, hv, k⟩ := hz j c hc
      exact ⟨v, by rw [ex hz j (List.getElem?_eq_some_iff.1 hc).1]; exact hv, k⟩
    obtain ⟨r, h1, h2⟩ := hB hag w _ _ (exK hx) (exK hy)
    refine ⟨_, _, r, run xs, run ys, h1, h2.trans ⟨fun e j hj => ?_, fun e j hj => ?_⟩⟩
    · rw [← ex hx j hj, ← ex hy j hj]; exact e j hj
    · rw [ex hx j hj, ex hy j hj]; exact e j hj
theorem a06 (w : World) {D : Nat} {f : TypeId → Option (List Nat)} (hf : ∀ t l, f t = some l → a9M P t l D) {xs ys : Array Value} : ∀ (fs : List Field) (o : Nat) (l : List Nat), iB f fs o = some l → mE l xs o → mE l ys o →
    ∃ r, (Op.eqFields D xs ys fs).run P w = .ok r w ∧ (r = true ↔ a5b xs ys o l.length)
  | [], o, l, h, _, _ => by
    have : l = [] := (Option.some.inj h).symm
    subst this
    exact ⟨true, by simp [Op.eqFields], ⟨fun _ i hi => absurd hi (Nat.not_lt_zero _), fun _ => rfl⟩⟩
  | x :: fs, o, l, h, hx, hy => by
    have h' : (Bool.rec (motive := fun _ => Option (List Nat)) none (Option.rec (motive := fun _ => Option (List Nat)) none (fun a => Option.rec (motive := fun _ => Option (List Nat)) none (fun b => some (yR a b)) (iB f fs (o + a.length))) (f x.type)) (bp (Nat.beq x.offset o) (dv (x.name == "_"))) : Option (List Nat)) = some l := h
    rw [eF] at h'
    split at h'
    · rename_i hb
      rw [cI, aF, fA] at hb
      obtain ⟨ho, hn⟩ := hb
      cases ha : f x.type with
      | none => rw [ha] at h'; cases h'
      | some a =>
        rw [ha] at h'
        have h2 : (Option.rec (motive := fun _ => Option (List Nat)) none (fun b => some (yR a b)) (iB f fs (o + a.length)) : Option (List Nat)) = some l := h'
        cases hbb : iB f fs (o + a.length) with
        | none => rw [hbb] at h2; cases h2
        | some b =>
          rw [hbb] at h2
          have : l = a ++ b := by rw [← a1r]; exact (Option.some.inj h2).symm
          subst this
          obtain ⟨va, vb, r, p1, p2, p3, p4⟩ := (hf _ _ ha).part w hx.left hy.left
          obtain ⟨r', q1, q2⟩ := a06 w hf fs (o + a.length) b hbb hx.right hy.right
          have hn' : x.name ≠ "_" := by simpa using hn
          subst ho
          rw [List.length_append]
          cases r with
          | false =>
            refine ⟨false, ?_, ?_⟩
            · simp [Op.eqFields, hn', Sem.run_bind, p1, p2, p3]
            · rw [ru]
              exact ⟨fun e => Bool.noConfusion e, fun e => p4.2 e.1⟩
          | true =>
            refine ⟨r', ?_, ?_⟩
            · simp [Op.eqFields, hn', Sem.run_bind, p1, p2, p3, q1]
            · rw [ru, q2]
              exact ⟨fun e => ⟨p4.1 rfl, e⟩, fun e => e.2⟩
    · cases h'
theorem a0v (n : Nat) (a : List Nat) : a1f (n + 1) a = a ++ a1f n a := a1r _ _
theorem a4D (w : World) {D : Nat} {e : TypeId} {a : List Nat} (h : a9M P e a D) {xs ys : Array Value} : ∀ (n s : Nat), mE (a1f n a) xs (s * a.length) → mE (a1f n a) ys (s * a.length) →
    ∃ r, (Op.eqItems D e a.length xs ys (List.range' s n)).run P w = .ok r w ∧ (r = true ↔ a5b xs ys (s * a.length) (a1f n a).length)
  | 0, s, _, _ => ⟨true, by simp [Op.eqItems], ⟨fun _ i hi => absurd hi (Nat.not_lt_zero _), fun _ => rfl⟩⟩
  | n + 1, s, hx, hy => by
    rw [a0v] at hx hy
    obtain ⟨va, vb, r, p1, p2, p3, p4⟩ := h.part w hx.left hy.left
    have e1 : s * a.length + a.length = (s + 1) * a.length := by rw [Nat.add_mul, Nat.one_mul]
    obtain ⟨r', q1, q2⟩ := a4D w h n (s + 1) (by rw [← e1]; exact hx.right) (by rw [← e1]; exact hy.right)
    rw [a0v, List.length_append, List.range'_succ]
    cases r with
    | false =>
      refine ⟨false, ?_, ?_⟩
      · simp [Op.eqItems, Sem.run_bind, p1, p2, p3]
      · rw [ru]
        exact ⟨fun e => Bool.noConfusion e, fun e => p4.2 e.1⟩
    | true =>
      refine ⟨r', ?_, ?_⟩
      · simp [Op.eqItems, Sem.run_bind, p1, p2, p3, q1]
      · rw [ru, e1, q2]
        exact ⟨fun e => ⟨p4.1 rfl, e⟩, fun e => e.2⟩
theorem aak {t : TypeId} {d : TypeDesc} (h : eI P t = some d) : ∃ i, eT P t = some i := let ⟨_, i, _, h2⟩ := aE h; ⟨i, h2⟩
theorem a0X : ∀ (d : Nat) (t : TypeId) (l : List Nat), nX P d t = some l → ∀ D, a9M P t l (d + D) ∧ P.eqGuardType (d + D) t = false
  | 0, t, l, h, D => by cases h
  | d + 1, t, l, h, D => by
    have ih := a0X d
    obtain ⟨h, hl⟩ := aaO (o := (match eI P t with
      | some .bool => some [0]
      | some .string => some [1]
      | some (.int q) => some [kc q + 2]
      | some (.struct fs) => Bool.rec (motive := fun _ => Option (List Nat)) none (iB (nX P d) fs.toList 0) (dv (P.stoodInHeld t))
      | some (.array n e) => Option.rec (motive := fun _ => Option (List Nat)) none (fun a => some (a1f n a)) (nX P d e)
      | _ => none)) h
    rw [show d + 1 + D = (d + D) + 1 by omega]
    cases hu : eI P t with
    | none => rw [hu] at h; cases h
    | some ds =>
      have hU := (aE hu).1
      obtain ⟨i, hi⟩ := aak hu
      rw [hu] at h
      have cell : isAgg P t = false → ∀ c, l = [c] → (∀ w v v', KAt c v → KAt c v' → ∃ r, (Op.equalIn (d + D + 1) t v v').run P w = .ok r w ∧ (r = true ↔ v = v')) → a9M P t l (d + D + 1) := fun hag c hlc hc =>
        ⟨hl, ⟨_, i, hu, hi⟩, fun _ => ⟨c, hlc, hc⟩, fun e => by rw [hag] at e; cases e⟩
      have hisA : ∀ b : Bool, (match some ds with | some (.struct _) | some (.array ..) => true | _ => false) = b → isAgg P t = b := fun b e => by
        unfold isAgg; rw [hu]; exact e
      cases ds with
      | bool =>
        refine ⟨cell (hisA _ rfl) 0 (Option.some.inj h).symm fun w v v' hv hv' => ?_, by simp [Program.eqGuardType, hU]⟩
        obtain ⟨x, rfl⟩ := hv
        obtain ⟨y, rfl⟩ := hv'
        exact ⟨_, run_equalIn_bool w _ t x y hU, by simp⟩
      | string =>
        refine ⟨cell (hisA _ rfl) 1 (Option.some.inj h).symm fun w v v' hv hv' => ?_, by simp [Program.eqGuardType, hU]⟩
        obtain ⟨x, rfl⟩ := hv
        obtain ⟨y, rfl⟩ := hv'
        exact ⟨_, run_equalIn_string w _ t x y hU, by rw [a3y]; simp⟩
      | int q =>
        refine ⟨cell (hisA _ rfl) (kc q + 2) (Option.some.inj h).symm fun w v v' hv hv' => ?_, by simp [Program.eqGuardType, hU]⟩
        obtain ⟨x, rfl⟩ := hv
        obtain ⟨y, rfl⟩ := hv'
        exact ⟨_, run_equalIn_int w _ t _ q x y hU, by simp⟩
      | struct fs =>
        have h' : (Bool.rec (motive := fun _ => Option (List Nat)) none (iB (nX P d) fs.toList 0) (dv (P.stoodInHeld t)) : Option (List Nat)) = some l := h
        rw [eF] at h'
        split at h'
        · rename_i hb
          rw [fA, Bool.not_eq_true'] at hb
          have hfs : P.fieldsOf t = fs := by simp [Program.fieldsOf, hU]
          refine ⟨⟨hl, ⟨_, i, hu, hi⟩, fun e => by rw [hisA true rfl] at e; exact Bool.noConfusion e, fun _ w xs ys hx hy => ?_⟩, ?_⟩
          · rw [run_equalIn_struct w (d + D) t xs ys (by rw [hfs]; exact hU) hb, hfs]
            exact a06 w (fun t l h => (ih t l h D).1) fs.toList 0 l h' hx hy
          · have key : ∀ (gs : List Field) (o : Nat) (l : List Nat), iB (nX P d) gs o = some l → ∀ f ∈ gs, P.eqGuardType (d + D) f.type = false := by
              intro gs
              induction gs with
              | nil => intro _ _ _ f hf; cases hf
              | cons x gs ihg =>
                intro o l h f hf
                have h' : (Bool.rec (motive := fun _ => Option (List Nat)) none (Option.rec (motive := fun _ => Option (List Nat)) none (fun a => Option.rec (motive := fun _ => Option (List Nat)) none (fun b => some (yR a b)) (iB (nX P d) gs (o + a.length))) (nX P d x.type)) (bp (Nat.beq x.offset o) (dv (x.name == "_"))) : Option (List Nat)) = some l := h
                rw [eF] at h'
                split at h'
                · cases ha : nX P d x.type with
                  | none => rw [ha] at h'; cases h'
                  | some a =>
                    rw [ha] at h'
                    have h2 : (Option.rec (motive := fun _ => Option (List Nat)) none (fun b => some (yR a b)) (iB (nX P d) gs (o + a.length)) : Option (List Nat)) = some l := h'
                    cases hbb : iB (nX P d) gs (o + a.length) with
                    | none => rw [hbb] at h2; cases h2
                    | some b =>
                      rcases List.mem_cons.1 hf with rfl | hf
                      · exact (ih _ _ ha D).2
                      · exact ihg _ _ hbb f hf
                · cases h'
            simp only [Program.eqGuardType, hU]
            rw [Array.any_eq_false]
            intro j hj
            have := key fs.toList 0 l h' fs[j] (by simp)
            simp [this]
        · cases h'
      | array n e =>
        have h' : (Option.rec (motive := fun _ => Option (List Nat)) none (fun a => some (a1f n a)) (nX P d e) : Option (List Nat)) = some l := h
        cases ha : nX P d e with
        | none => rw [ha] at h'; cases h'
        | some a =>
          rw [ha] at h'
          have : l = a1f n a := (Option.some.inj h').symm
          subst this
          obtain ⟨hea, hg⟩ := ih e a ha D
          obtain ⟨he1, ⟨d', ie, he2, he3⟩, _, _⟩ := hea
          refine ⟨⟨hl, ⟨_, i, hu, hi⟩, fun e => by rw [hisA true rfl] at e; exact Bool.noConfusion e, fun _ w xs ys hx hy => ?_⟩, ?_⟩
          · rw [run_equalIn_array w (d + D) xs ys hU (dT he3)]
            have hc : P.cellsOf e = a.length := by rw [he1, dP he3]; simp [Program.cellsOf, dT he3]
            rw [hc, List.range_eq_range']
            have := a4D w (ih e a ha D).1 (xs := xs) (ys := ys) n 0 (by rw [Nat.zero_mul]; exact hx) (by rw [Nat.zero_mul]; exact hy)
            rw [Nat.zero_mul] at this
            exact this
          · simp only [Program.eqGuardType, hU]; exact hg
      | _ => cases h
end
def dr (q : Nat) (x : Bool) (u : Value) : Prop := match q, x with
  | 0, true => u = .pointer none
  | 0, false => ∃ a, u = .pointer (some a)
  | 1, true => u = .slice none 0 0
  | 1, false => ∃ a n c, u = .slice (some a) n c
  | 2, true => u = .nilFunc
  | 2, false => ∃ f a b, u = .func f a b
  | 3, true => u = .map none
  | 3, false => ∃ m, u = .map (some m)
  | _, true => u = .nilIface
  | _, false => ∃ t v, u = .iface t v
section
variable {R : aa} (hR : R ≠ .fail)
include hR
theorem sD {q : Nat} (hq : q < 5) {v : AV} {k : Bool → aa} (g : a50 q v k = R) : ∃ x, k x = R ∧ ∀ {w : World} {F : Nat → Prop} {μ : Mu} {u : Value}, ao w F μ v u → dr q x u := by
  cases v with
  | int => exact an hR g
  | bool => exact an hR g
  | str => exact an hR g
  | ptr b o =>
    obtain ⟨h, g2⟩ := ax hR g
    rw [aF] at h; subst h
    exact ⟨false, g2, fun hc => by obtain ⟨m, _, rfl⟩ := jX hc; exact ⟨_, rfl⟩⟩
  | ms b o n z =>
    obtain ⟨h, g2⟩ := ax hR g
    rw [aF] at h; subst h
    exact ⟨false, g2, fun hc => by cases hc <;> exact ⟨_, _, _, rfl⟩⟩
  | vs t o n z =>
    obtain ⟨h, g2⟩ := ax hR g
    rw [aF] at h; subst h
    exact ⟨false, g2, fun hc => by cases hc <;> exact ⟨_, _, _, rfl⟩⟩
  | agg => exact an hR g
  | bB => exact an hR g
  | x i t a b c =>
    have g' : when (Nat.beq i (Nat.add q 7)) (k true) (ar (nilX q i) (k false)) = R := g
    rcases aM hR g' with ⟨h, g2⟩ | ⟨_, g2⟩
    · rw [aF] at h; subst h
      refine ⟨true, g2, fun hc => ?_⟩
      match q, hq with
      | 0, _ => cases hc; rfl
      | 1, _ => cases hc; rfl
      | 2, _ => cases hc; rfl
      | 3, _ => cases hc; rfl
      | 4, _ => cases hc; rfl
    · obtain ⟨h, g2⟩ := ax hR g2
      refine ⟨false, g2, fun hc => ?_⟩
      match q, hq with
      | 0, _ =>
        have h : Nat.beq i 1 = true := h
        rw [aF] at h; subst h; cases hc; exact ⟨_, rfl⟩
      | 1, _ =>
        have h : Nat.beq i 6 = true := h
        rw [aF] at h; subst h; cases hc; exact ⟨_, _, _, rfl⟩
      | 2, _ =>
        have h : (Nat.beq i 3 || Nat.beq i 5) = true := h
        rw [Bool.or_eq_true, aF, aF] at h
        rcases h with rfl | rfl <;> cases hc <;> exact ⟨_, _, _, rfl⟩
      | 3, _ =>
        have h : Nat.beq i 4 = true := h
        rw [aF] at h; subst h; cases hc; exact ⟨_, rfl⟩
      | 4, _ =>
        have h : Nat.beq i 12 = true := h
        rw [aF] at h; subst h; cases hc; exact ⟨_, _, rfl⟩
end
section
variable {P : Program} {R : aa} (hR : R ≠ .fail)
theorem py {op : BinOp} {t : TypeId} {x y : Operand} {u v : Value} (w : World) (h1 : ¬ (u = .nilIface ∧ v = .nilIface)) (h2 : ∀ cs ds, u = .agg cs → v = .agg ds → P.eqGuardType P.depth t = false) : (eqGuard op t x y u v).run P w = .ok () w := by
  unfold eqGuard
  cases op <;> first
    | rfl
    | (simp only [Bool.not_true, Bool.false_eq_true, if_false]
       split
       · exact absurd ⟨rfl, rfl⟩ h1
       · rename_i cs ds
         simp [h2 cs ds rfl rfl]
       · rfl)
def a0Z (op : BinOp) (t : TypeId) (x y : Operand) (u v : Value) : Sem Value := do eqGuard op t x y u v; binOp op t u v
theorem oD {op : BinOp} {t : TypeId} {x y : Operand} {u v : Value} {w : World} (h : (eqGuard op t x y u v).run P w = .ok () w) : (a0Z op t x y u v).run P w = (binOp op t u v).run P w := by
  unfold a0Z; rw [Sem.run_bind, h]; rfl
theorem a6V {t : TypeId} {u v : Value} {w : World} {r : Bool} (h : (Op.equal t u v).run P w = .ok r w) (h1 : ∀ k n, u ≠ .int k n) (h2 : ∀ s, u ≠ .string s) (h3 : ∀ k n, u ≠ .float k n) (h4 : ∀ k n m, u ≠ .complex k n m) :
    (binOp .eql t u v).run P w = .ok (.bool r) w ∧ (binOp .neq t u v).run P w = .ok (.bool (!r)) w := by
  constructor <;> unfold binOp <;> split <;> first | (exact absurd rfl (h1 _ _)) | (exact absurd rfl (h2 _)) | (exact absurd rfl (h3 _ _)) | (exact absurd rfl (h4 _ _ _)) | (simp [h, Sem.run_bind]; done) | simp_all
theorem a9k (P : Program) : ∃ D, P.depth = 20 + D := ⟨P.depth - 20, by unfold Program.depth Made.depth; omega⟩
theorem afR (D : Nat) {t : TypeId} {e : TypeId} (hU : P.underlying t = some (.pointer e)) {w : World} {x y : Bool} {u v : Value} (hxy : x = true ∨ y = true) (hx : dr 0 x u) (hy : dr 0 y v) : (Op.equalIn (D + 1) t u v).run P w = .ok (x && y) w := by
  cases x <;> cases y <;> simp only [dr] at hx hy
  · simp at hxy
  · obtain ⟨_, rfl⟩ := hx; subst hy
    simp [Op.equalIn, run_underlying hU]
  · obtain ⟨_, rfl⟩ := hy; subst hx
    simp [Op.equalIn, run_underlying hU]
  · subst hx; subst hy
    simp [Op.equalIn, run_underlying hU]
theorem abU (x : Bool) (u : Value) (hx : dr 0 x u) : ((∀ k n, u ≠ .int k n) ∧ (∀ s, u ≠ .string s) ∧ (∀ k n, u ≠ .float k n) ∧ (∀ k n m, u ≠ .complex k n m)) ∧ u ≠ .nilIface ∧ ∀ cs, u ≠ .agg cs := by
  cases x <;> simp only [dr] at hx
  · obtain ⟨_, rfl⟩ := hx; simp
  · subst hx; simp
theorem a9B (D : Nat) {t : TypeId} {e : TypeId} (hU : P.underlying t = some (.slice e)) {w : World} {x y : Bool} {u v : Value} (hxy : x = true ∨ y = true) (hx : dr 1 x u) (hy : dr 1 y v) : (Op.equalIn (D + 1) t u v).run P w = .ok (x && y) w := by
  cases x <;> cases y <;> simp only [dr] at hx hy
  · simp at hxy
  · obtain ⟨_, _, _, rfl⟩ := hx; subst hy
    simp [Op.equalIn, run_underlying hU]
  · obtain ⟨_, _, _, rfl⟩ := hy; subst hx
    simp [Op.equalIn, run_underlying hU]
  · subst hx; subst hy
    simp [Op.equalIn, run_underlying hU]
theorem a5R (x : Bool) (u : Value) (hx : dr 1 x u) : ((∀ k n, u ≠ .int k n) ∧ (∀ s, u ≠ .string s) ∧ (∀ k n, u ≠ .float k n) ∧ (∀ k n m, u ≠ .complex k n m)) ∧ u ≠ .nilIface ∧ ∀ cs, u ≠ .agg cs := by
  cases x <;> simp only [dr] at hx
  · obtain ⟨_, _, _, rfl⟩ := hx; simp
  · subst hx; simp
theorem acJ (D : Nat) {t : TypeId} {e e1 e2} (hU : P.underlying t = some (.func e e1 e2)) {w : World} {x y : Bool} {u v : Value} (hxy : x = true ∨ y = true) (hx : dr 2 x u) (hy : dr 2 y v) : (Op.equalIn (D + 1) t u v).run P w = .ok (x && y) w := by
  cases x <;> cases y <;> simp only [dr] at hx hy
  · simp at hxy
  · obtain ⟨_, _, _, rfl⟩ := hx; subst hy
    simp [Op.equalIn, run_underlying hU]
  · obtain ⟨_, _, _, rfl⟩ := hy; subst hx
    simp [Op.equalIn, run_underlying hU]
  · subst hx; subst hy
    simp [Op.equalIn, run_underlying hU]
theorem a9i (x : Bool) (u : Value) (hx : dr 2 x u) : ((∀ k n, u ≠ .int k n) ∧ (∀ s, u ≠ .string s) ∧ (∀ k n, u ≠ .float k n) ∧ (∀ k n m, u ≠ .complex k n m)) ∧ u ≠ .nilIface ∧ ∀ cs, u ≠ .agg cs := by
  cases x <;> simp only [dr] at hx
  · obtain ⟨_, _, _, rfl⟩ := hx; simp
  · subst hx; simp
theorem ae0 (D : Nat) {t : TypeId} {e e1 : TypeId} (hU : P.underlying t = some (.map e e1)) {w : World} {x y : Bool} {u v : Value} (hxy : x = true ∨ y = true) (hx : dr 3 x u) (hy : dr 3 y v) : (Op.equalIn (D + 1) t u v).run P w = .ok (x && y) w := by
  cases x <;> cases y <;> simp only [dr] at hx hy
  · simp at hxy
  · obtain ⟨_, rfl⟩ := hx; subst hy
    simp [Op.equalIn, run_underlying hU]
  · obtain ⟨_, rfl⟩ := hy; subst hx
    simp [Op.equalIn, run_underlying hU]
  · subst hx; subst hy
    simp [Op.equalIn, run_underlying hU]
theorem abR (x : Bool) (u : Value) (hx : dr 3 x u) : ((∀ k n, u ≠ .int k n) ∧ (∀ s, u ≠ .string s) ∧ (∀ k n, u ≠ .float k n) ∧ (∀ k n m, u ≠ .complex k n m)) ∧ u ≠ .nilIface ∧ ∀ cs, u ≠ .agg cs := by
  cases x <;> simp only [dr] at hx
  · obtain ⟨_, rfl⟩ := hx; simp
  · subst hx; simp
def a7h (P : Program) (R : aa) (t : TypeId) (a b : AV) (k : Bool → aa) : Prop :=
  ∃ r, k r = R ∧ ∀ {w : World} {F : Nat → Prop} {μ : Mu} {u v : Value}, ao w F μ a u → ao w F μ b v → (Op.equal t u v).run P w = .ok r w ∧ ((∀ k n, u ≠ .int k n) ∧ (∀ s, u ≠ .string s) ∧ (∀ k n, u ≠ .float k n) ∧ (∀ k n m, u ≠ .complex k n m)) ∧
      ¬ (u = .nilIface ∧ v = .nilIface) ∧ ∀ cs ds, u = .agg cs → v = .agg ds → P.eqGuardType P.depth t = false
include hR in
theorem afX {t : TypeId} {a b : AV} {k : Bool → aa} (g : eqV (oX P t) a b k = R) :
    a7h P R t a b k := by
  have nil : ∀ q, q < 4 → eqV (.nil q) a b k = R → (∀ {w : World} {x y : Bool} {u v : Value}, (x = true ∨ y = true) → dr q x u → dr q y v → (Op.equal t u v).run P w = .ok (x && y) w) →
      (∀ x u, dr q x u → ((∀ k n, u ≠ .int k n) ∧ (∀ s, u ≠ .string s) ∧ (∀ k n, u ≠ .float k n) ∧ (∀ k n m, u ≠ .complex k n m)) ∧ u ≠ .nilIface ∧ ∀ cs, u ≠ .agg cs) →
      a7h P R t a b k := by
    intro q hq g he hs
    obtain ⟨x, g1, h1⟩ := sD hR (Nat.lt_succ_of_lt hq) (show a50 q a (fun x => a50 q b fun y => (Bool.rec (motive := fun _ => aa) (ar y (k false)) (iU y k) x : aa)) = R from g)
    obtain ⟨y, g2, h2⟩ := sD hR (Nat.lt_succ_of_lt hq) g1
    have fin : ∀ r, r = (x && y) → (x = true ∨ y = true) → k r = R → a7h P R t a b k := fun r hr hxy g => ⟨r, g, fun {w F μ u v} ha hb => by
      have hn := hs x u (h1 ha)
      exact ⟨hr ▸ he hxy (h1 ha) (h2 hb), hn.1, fun e => hn.2.1 e.1, fun cs ds e => absurd e (hn.2.2 cs)⟩⟩
    cases x with
    | true =>
      have g2' : iU y k = R := g2
      rw [km] at g2'
      exact fin y (by simp) (.inl rfl) g2'
    | false =>
      obtain ⟨hy, g3⟩ := ax hR (show ar y (k false) = R from g2)
      subst hy
      exact fin false rfl (.inr rfl) g3
  unfold oX at g
  cases hu : eI P t with
  | none => rw [hu] at g; exact an hR g
  | some d =>
    have hU := (aE hu).1
    rw [hu] at g
    have aggs : (Option.rec (motive := fun _ => EqP) .no (fun l => .cells l) (nX P 20 t) : EqP) = .no ∨ (∃ l, nX P 20 t = some l ∧ (Option.rec (motive := fun _ => EqP) .no (fun l => .cells l) (nX P 20 t) : EqP) = .cells l) := by
      cases nX P 20 t with
      | none => exact .inl rfl
      | some l => exact .inr ⟨l, rfl, rfl⟩
    have agg : isAgg P t = true → eqV (Option.rec (motive := fun _ => EqP) .no (fun l => .cells l) (nX P 20 t)) a b k = R → a7h P R t a b k := fun hag g => by
      rcases aggs with e | ⟨l, hl, e⟩
      · rw [e] at g; exact an hR g
      · rw [e] at g
        obtain ⟨tl, m, rfl, g1⟩ := gb hR g
        obtain ⟨ul, n, rfl, g2⟩ := gb hR g1
        obtain ⟨hm, g3⟩ := ax hR g2
        obtain ⟨hn, g4⟩ := ax hR g3
        rw [aF] at hm hn
        obtain ⟨r, g5, h5⟩ := a8j hR g4
        refine ⟨r, g5, fun {w F μ u v} ha hb => ?_⟩
        cases ha with
        | @agg _ _ _ cs us hs hu1 h1 h =>
          cases hb with
          | @agg _ _ _ ds vs hs' hu1' h1' h' =>
            obtain ⟨q1, q2⟩ := h5 (us := us) (vs := vs) fun i hi => ⟨h i (by omega), h' i (by omega)⟩
            have hk : mE l cs 0 := fun i c hc => ⟨us i, by rw [Nat.zero_add]; exact hu1 i (by have := (List.getElem?_eq_some_iff.1 hc).1; omega), (q1 i c hc).1⟩
            have hk' : mE l ds 0 := fun i c hc => ⟨vs i, by rw [Nat.zero_add]; exact hu1' i (by have := (List.getElem?_eq_some_iff.1 hc).1; omega), (q1 i c hc).2⟩
            obtain ⟨r', p1, p2⟩ := (a0X 20 t l hl 9980).1.2.2.2 hag w cs ds hk hk'
            have hrr : r' = r := by
              have : r' = true ↔ r = true := by
                rw [p2, q2]
                refine ⟨fun e i hi => ?_, fun e i hi => ?_⟩
                · have := e i hi
                  rw [Nat.zero_add, hu1 i (by omega), hu1' i (by omega)] at this
                  exact Option.some.inj this
                · rw [Nat.zero_add, hu1 i (by omega), hu1' i (by omega), e i hi]
              cases r <;> cases r' <;> simp_all
            subst hrr
            obtain ⟨D, hD⟩ := a9k P
            exact ⟨p1, ⟨fun _ _ => by simp, fun _ => by simp, fun _ _ => by simp, fun _ _ _ => by simp⟩, fun e => by simp at e, fun _ _ _ _ => by rw [hD]; exact (a0X 20 t l hl D).2⟩
    cases d with
    | bool =>
      obtain ⟨r, g1, h1⟩ := wG (c := 0) hR (show qA 0 a b k = R from g)
      refine ⟨r, g1, fun {w F μ u v} ha hb => ?_⟩
      obtain ⟨⟨x, rfl⟩, ⟨y, rfl⟩, h3⟩ := h1 ha hb
      refine ⟨?_, ⟨fun _ _ => by simp, fun _ => by simp, fun _ _ => by simp, fun _ _ _ => by simp⟩, fun e => by simp at e, fun _ _ e => by simp at e⟩
      have := run_equalIn_bool w 9999 t x y hU
      have e : (x == y) = r := by
        cases r <;> simp_all
      rw [e] at this; exact this
    | pointer e => exact nil 0 (by omega) g (fun hxy hx hy => afR 9999 hU hxy hx hy) abU
    | slice e => exact nil 1 (by omega) g (fun hxy hx hy => a9B 9999 hU hxy hx hy) a5R
    | func a b c => exact nil 2 (by omega) g (fun hxy hx hy => acJ 9999 hU hxy hx hy) a9i
    | map a b => exact nil 3 (by omega) g (fun hxy hx hy => ae0 9999 hU hxy hx hy) abR
    | struct fs => exact agg (by unfold isAgg; rw [hu]) g
    | array n e => exact agg (by unfold isAgg; rw [hu]) g
    | _ => exact an hR g
include hR in
theorem aap {t : TypeId} {op : BinOp} {x y : Operand} {a b : AV} {k : AV → aa} (g : (wi (oX P t) op).f a b k = R) : ∃ v, k v = R ∧ iq P (a0Z op t x y) a b v := by
  have fin : ∀ (s : Bool → Bool), (op = .eql ∧ s = id ∨ op = .neq ∧ s = (!·)) → (eqV (oX P t) a b fun r => k (.bool (s r))) = R → ∃ v, k v = R ∧ iq P (a0Z op t x y) a b v := fun s hs g => by
    obtain ⟨r, g1, h⟩ := afX hR g
    refine ⟨_, g1, fun {w F μ u v} ha hb => ?_⟩
    obtain ⟨h1, ⟨h2, h3, h4, h5⟩, h6, h7⟩ := h ha hb
    obtain ⟨e1, e2⟩ := a6V h1 h2 h3 h4 h5
    rw [oD (py w h6 h7)]
    rcases hs with ⟨rfl, rfl⟩ | ⟨rfl, rfl⟩
    · exact ⟨_, e1, .bool _⟩
    · exact ⟨_, e2, .bool _⟩
  cases op with
  | eql => exact fin id (.inl ⟨rfl, rfl⟩) g
  | neq => exact fin (!·) (.inr ⟨rfl, rfl⟩) (by
      have e : (fun r : Bool => k (.bool (!r))) = fun r => k (.bool (dv r)) := funext fun r => by rw [fA]
      rw [e]; exact g)
  | _ => exact an hR g
theorem a2e {P : Program} {t : TypeId} (h : isIface P t = true) : ∃ ms, P.underlying t = some (.interface ms) := by
  unfold isIface at h
  split at h
  · rename_i ms hu; exact ⟨ms, (aE hu).1⟩
  · cases h
theorem a9E (D : Nat) {P : Program} {t : TypeId} {ms : Array (String × TypeId)} (hU : P.underlying t = some (.interface ms)) {b : Bool} {u : Value} (hu : dr 4 b u) (w : World) : (Op.equalIn (D + 1) t u .nilIface).run P w = .ok b w := by
  cases b with
  | true =>
    have hu' : u = .nilIface := hu
    subst hu'
    simp [Op.equalIn, run_underlying hU]
  | false =>
    obtain ⟨tt, v, rfl⟩ : ∃ tt v, u = .iface tt v := hu
    simp [Op.equalIn, run_underlying hU]
theorem afG {t : TypeId} {x y : Operand} (hi : isIface P t = true) (hy : a22 y = true) {b : Bool} {u : Value} (hu : dr 4 b u) (w : World) :
    y = .const .nilIface ∧ (a0Z .eql t x y u .nilIface).run P w = .ok (.bool b) w ∧ (a0Z .neq t x y u .nilIface).run P w = .ok (.bool (!b)) w := by
  obtain ⟨ms, hU⟩ := a2e hi
  have e : y = .const .nilIface := by
    unfold a22 at hy
    split at hy
    · rfl
    · cases hy
  subst e
  have hg : ∀ op : BinOp, (eqGuard op t x (.const .nilIface) u .nilIface).run P w = .ok () w := fun op => by
    unfold eqGuard
    cases b with
    | true =>
      have hu' : u = .nilIface := hu
      subst hu'
      cases op <;> simp
    | false =>
      obtain ⟨tt, v, rfl⟩ : ∃ tt v, u = .iface tt v := hu
      cases op <;> simp
  have he : (Op.equal t u .nilIface).run P w = .ok b w := a9E 9999 hU hu w
  have hno : (∀ k n, u ≠ .int k n) ∧ (∀ s, u ≠ .string s) ∧ (∀ k n, u ≠ .float k n) ∧ ∀ k n m, u ≠ .complex k n m := by
    cases b with
    | true =>
      have hu' : u = .nilIface := hu
      subst hu'; simp
    | false =>
      obtain ⟨tt, v, rfl⟩ : ∃ tt v, u = .iface tt v := hu
      simp
  obtain ⟨e1, e2⟩ := a6V he hno.1 hno.2.1 hno.2.2.1 hno.2.2.2
  exact ⟨rfl, by rw [oD (hg _)]; exact e1, by rw [oD (hg _)]; exact e2⟩
include hR in
theorem ag1 {t : TypeId} {op : BinOp} {x y : Operand} {a b : AV} {k : AV → aa} (g : (match eI P t with
    | some (.int ik) => ae op (kc ik)
    | some .string => cx op
    | _ => wi (oX P t) op : BK).f a b k = R) : ∃ v, k v = R ∧ iq P (a0Z op t x y) a b v := by
  split at g
  · rename_i ik _
    obtain ⟨v, h1, g1⟩ := adN hR ik t g
    have hint : ∃ i n, a = .int i n := by
      cases ik <;> cases op <;> exact (let ⟨i, n, h, _⟩ := dR hR g; ⟨i, n, h⟩)
    obtain ⟨i, n, rfl⟩ := hint
    refine ⟨v, g1, fun {w F μ u u'} ha hb => ?_⟩
    have ha' := ga ha
    rw [oD (py w (fun e => by rw [ha'.2] at e; simp at e) (fun cs ds e => by rw [ha'.2] at e; cases e))]
    exact h1 ha hb
  · obtain ⟨v, h1, g1⟩ := ad4 hR t g
    have hstr : ∃ i n, a = .str i n := by
      cases op <;> first | exact (let ⟨i, n, h, _⟩ := dO hR g; ⟨i, n, h⟩) | exact an hR g
    obtain ⟨i, n, rfl⟩ := hstr
    refine ⟨v, g1, fun {w F μ u u'} ha hb => ?_⟩
    obtain ⟨s, hs, _⟩ := iF ha
    rw [oD (py w (fun e => by rw [hs] at e; simp at e) (fun cs ds e => by rw [hs] at e; cases e))]
    exact h1 ha hb
  · exact aap hR g
end
section
variable {P : Program} {R : aa} (hR : R ≠ .fail)
theorem aeY (i : Nat) : BitVec.ofInt (kd i).bits (if (kd i).signed then -1 else (kd i).max) = BitVec.allOnes (kd i).bits := by
  generalize kd i = k
  cases k <;> decide
include hR in
theorem afH {x : AV} {k : AV → aa} (g : (x.bV fun i n => bu i (Nat.sub (Nat.sub (md i) 1) n) k) = R) : ∃ v, k v = R ∧ pT P (Op.unary .xor) x v := by
  obtain ⟨i, n, rfl, g2⟩ := dR hR g
  rw [et] at g2
  refine ⟨_, g2, fun {w F μ u} ha => ?_⟩
  obtain ⟨hn, rfl⟩ := ga ha
  have hx : (BitVec.allOnes (kd i).bits ^^^ BitVec.ofInt (kd i).bits (T i n)).toNat = md i - 1 - n := by
    rw [BitVec.allOnes_xor, BitVec.toNat_not, a0W i n hn, a1y, jf]
  obtain ⟨h1, h2⟩ := ot hR i _ _ hx
  refine ⟨_, ?_, cX h1⟩
  simp only [Op.unary, Op.intBits, aeY, Sem.run_pure]
  exact congrArg (Result.ok · w) h2
end
section
variable {V : Env} {M : Mem} (ok : cW M) {R : aa} (hR : R ≠ .fail)
include ok hR in
theorem a1K {t e : TypeId} {n : Nat} (ht : eI V.P t = some (.array n e)) {z : Nat} (hsz : bw V.P e = z) (hz : 1 ≤ z) {b o : Nat} {lo hi mx : Option AV} {hp : Hp} {k : AV → aa}
    (g : (hp.use M b (Nat.add o (Nat.mul n z)) fun _ _ _ _ _ => eS z (.ms b o n z) lo hi mx k) = R) :
    ∃ v, k v = R ∧ gE hp (.ptr b o) ∧ ∀ {w : World} {F : Nat → Prop} {μ : Mu} {u : Value} {a bb c : Option Value}, ao w F μ (.ptr b o) u → dz w F μ lo a → dz w F μ hi bb → dz w F μ mx c → ni V w F μ hp (.ptr b o) →
      ∃ r, (Instr.sliceAt t u a bb c).run V.P w = .ok r w ∧ ao w F μ v r := by
  obtain ⟨rw', fl, z', s, tr, hB, hs, g1⟩ := mg ok hR g
  obtain ⟨_, g2⟩ := ax hR (show ar (Nat.beq z z) (bounds lo hi mx n fun l h e => when e (k (.x 6 .lf 0 0 0)) (aG (Nat.add o (Nat.mul l z)) fun o => aG (Nat.sub h l) fun n => k (.ms b o n z))) = R from g1)
  obtain ⟨l, h, e', m, g3, hl, hh, h1, h2, b1, b2, b3, b4⟩ := iW hR g2
  have hs : o + n * z ≤ s := hs
  obtain ⟨i, _, hi', hsi⟩ := ji (P := V.P) (t := e) (by omega)
  have hiz : i.size = z := by omega
  have hm : mx.isSome = true → h ≤ m ∧ m ≤ n := fun e => ⟨(h1 e).1, (h1 e).2.1⟩
  have live : gE hp (.ptr b o) := fun c hc => by cases hc; rw [hB]; trivial
  have hsl : ∀ {w : World} {F : Nat → Prop} {μ : Mu} {ad : Addr} {a bb c : Option Value}, dz w F μ lo a → dz w F μ hi bb → dz w F μ mx c →
      (Instr.sliceAt t (.pointer (some ad)) a bb c).run V.P w = .ok (.slice (some (if (if mx.isSome = true then m else n) = l then ad else ad.add (l * i.size))) (h - l) ((if mx.isSome = true then m else n) - l)) w := fun {w F μ ad a bb c} q1 q2 q3 => by
    have hb := jd (P := V.P) (s := false) q1 q2 q3 b1 b2 b3 b4 hl hh hm (Nat.le_refl n)
    simp [Instr.sliceAt, Instr.sureAddr, run_underlying (aE ht).1, hb, sizeOf, typeInfo, hi']
  have size : ∀ {w : World} {F : Nat → Prop} {μ : Mu} {mp : Mp}, μ b = some mp → ni V w F μ hp (.ptr b o) → n * z = 0 ∨ mp.base + o + n * z ≤ mp.size := fun {w F μ mp} hmu hro => by
    have hr := hro b rfl
    rw [hB] at hr
    obtain ⟨m', c, T, fz, p1, p2, p3, p4, _⟩ := hr
    rw [hmu] at p1; cases p1
    by_cases e0 : n * z = 0
    · exact .inl e0
    · obtain ⟨u, hu, _⟩ := p4 (o + n * z - 1) (by omega)
      have := (Array.getElem?_eq_some_iff.1 hu).1
      exact .inr (by omega)
  rcases aM hR g3 with ⟨he, g4⟩ | ⟨he, g4⟩
  · have hs : mx.isSome = true := by cases mx with
      | none => rw [h2 rfl] at he; cases he
      | some _ => rfl
    have hml : m = l := by rw [← aF, ← (h1 hs).2.2]; exact he
    refine ⟨_, g4, live, fun {w F μ u a bb c} ha q1 q2 q3 _ => ?_⟩
    obtain ⟨mp, hmu, rfl⟩ := jX ha
    refine ⟨_, hsl q1 q2 q3, ?_⟩
    have := (h1 hs).1
    rw [if_pos hs, if_pos hml, show h - l = 0 by omega, show m - l = 0 by omega]
    exact .emp
  · rw [az, az] at g4
    refine ⟨_, g4, live, fun {w F μ u a bb c} ha q1 q2 q3 hro => ?_⟩
    obtain ⟨mp, hmu, rfl⟩ := jX ha
    refine ⟨_, hsl q1 q2 q3, ?_⟩
    have hM : h ≤ (if mx.isSome = true then m else n) ∧ (if mx.isSome = true then m else n) ≤ n := by
      by_cases hs : mx.isSome = true
      · rw [if_pos hs]; have := hm hs; omega
      · rw [if_neg hs]; omega
    generalize (if mx.isSome = true then m else n) = N at *
    by_cases e1 : N = l
    · rw [if_pos e1, show h - l = 0 by omega, show N - l = 0 by omega]
      show ao w F μ (.ms b (o + l * z) (h - l) z) _
      rw [show h - l = 0 by omega]; exact .ms0
    · rw [if_neg e1]
      show ao w F μ (.ms b (o + l * z) (h - l) z) (.slice (some ((⟨mp.c8, mp.base + o, none⟩ : Addr).add (l * i.size))) (h - l) (N - l))
      rw [Addr.add_mid, Nat.add_assoc, hiz]
      refine .ms hmu (by omega) ?_
      have h3 : (N - l) * z + l * z = N * z := by rw [← Nat.add_mul]; congr 1; omega
      have h4 : N * z ≤ n * z := Nat.mul_le_mul_right z hM.2
      rcases size hmu hro with h5 | h5
      · have : n = 0 := by
          rcases Nat.mul_eq_zero.1 h5 with h | h
          · exact h
          · omega
        omega
      · omega
include hR in
theorem zd {t e : TypeId} {n : Nat} (ht : eI V.P t = some (.array n e)) {z : Nat} (hsz : bw V.P e = z) (hz : 1 ≤ z) {tt : Row} {o cc y : Nat} {lo hi mx : Option AV} {k : AV → aa}
    (g : (ar (Nat.beq y z) (ar (Nat.beq (Nat.mod o z) 0) (ar (Nat.ble (Nat.mul n z) cc) (eS z (.vs tt (Nat.div o z) n z) lo hi mx k)))) = R) :
    ∃ v, k v = R ∧ a6J V.P (Instr.sliceAt t) (.x 1 tt o cc y) lo hi mx v := by
  obtain ⟨hy, g1⟩ := ax hR g
  obtain ⟨ho, g1⟩ := ax hR g1
  obtain ⟨hc, g1⟩ := ax hR g1
  rw [aF] at hy ho
  rw [bA] at hc
  have ho : o % z = 0 := ho
  have hc : n * z ≤ cc := hc
  subst hy
  obtain ⟨_, g2⟩ := ax hR (show ar (Nat.beq y y) (bounds lo hi mx n fun l h e => when e (k (.x 6 .lf 0 0 0)) (aG (Nat.add (Nat.div o y) l) fun o => aG (Nat.sub h l) fun n => k (.vs tt o n y))) = R from g1)
  obtain ⟨l, h, e', m, g3, hl, hh, h1, h2, b1, b2, b3, b4⟩ := iW hR g2
  obtain ⟨i, _, hi', hsi⟩ := ji (P := V.P) (t := e) (by omega)
  have hiz : i.size = y := by omega
  have hoz : o / y * y = o := Nat.div_mul_cancel (Nat.dvd_of_mod_eq_zero ho)
  have hm : mx.isSome = true → h ≤ m ∧ m ≤ n := fun e => ⟨(h1 e).1, (h1 e).2.1⟩
  have hsl : ∀ {w : World} {F : Nat → Prop} {μ : Mu} {ad : Addr} {a bb c : Option Value}, dz w F μ lo a → dz w F μ hi bb → dz w F μ mx c →
      (Instr.sliceAt t (.pointer (some ad)) a bb c).run V.P w = .ok (.slice (some (if (if mx.isSome = true then m else n) = l then ad else ad.add (l * i.size))) (h - l) ((if mx.isSome = true then m else n) - l)) w := fun {w F μ ad a bb c} q1 q2 q3 => by
    have hb := jd (P := V.P) (s := false) q1 q2 q3 b1 b2 b3 b4 hl hh hm (Nat.le_refl n)
    simp [Instr.sliceAt, Instr.sureAddr, run_underlying (aE ht).1, hb, sizeOf, typeInfo, hi']
  rcases aM hR g3 with ⟨he, g4⟩ | ⟨he, g4⟩
  · have hs : mx.isSome = true := by cases mx with
      | none => rw [h2 rfl] at he; cases he
      | some _ => rfl
    have hml : m = l := by rw [← aF, ← (h1 hs).2.2]; exact he
    refine ⟨_, g4, fun {w F μ u a bb c} ha q1 q2 q3 => ?_⟩
    cases ha with
    | pO us hF hu ho1 hrel =>
      refine ⟨_, hsl q1 q2 q3, ?_⟩
      have := (h1 hs).1
      rw [if_pos hs, if_pos hml, show h - l = 0 by omega, show m - l = 0 by omega]
      exact .emp
  · rw [az, az] at g4
    refine ⟨_, g4, fun {w F μ u a bb c} ha q1 q2 q3 => ?_⟩
    cases ha with
    | pO us hF hu ho1 hrel =>
      rename_i B off
      refine ⟨_, hsl q1 q2 q3, ?_⟩
      have hM : h ≤ (if mx.isSome = true then m else n) ∧ (if mx.isSome = true then m else n) ≤ n := by
        by_cases hs : mx.isSome = true
        · rw [if_pos hs]; have := hm hs; omega
        · rw [if_neg hs]; omega
      generalize (if mx.isSome = true then m else n) = N at *
      show ao w F μ (.vs tt (o / y + l) (h - l) y) _
      by_cases e1 : N = l
      · rw [if_pos e1, show h - l = 0 by omega, show N - l = 0 by omega]; exact .vs0
      · rw [if_neg e1]
        show ao w F μ (.vs tt (o / y + l) (h - l) y) (.slice (some ((⟨B, off, none⟩ : Addr).add (l * i.size))) (h - l) (N - l))
        rw [Addr.add_mid, hiz]
        have hlt : ∀ i, i < (h - l) * y → l * y + i < cc := fun i hi => by
          have h3 : (h - l) * y + l * y = h * y := by rw [← Nat.add_mul]; congr 1; omega
          have h4 : h * y ≤ n * y := Nat.mul_le_mul_right y hh
          omega
        refine .vs (fun i => us (l * y + i)) hF (by omega) (fun i hi => ?_) (fun i hi => ho1 _ (hlt i hi)) fun i hi => ?_
        · rw [Nat.add_assoc]; exact hu _ (hlt i hi)
        · rw [Nat.add_mul, hoz, Nat.add_assoc]; exact hrel _ (hlt i hi)
include ok hR in
theorem aad {s e : TypeId} (hs : eI V.P s = some (.slice e)) (he : a2U V.P e = true) {a : AV} {hp : Hp} {k : AV → Hp → aa}
    (g : (a.fg (fun b _ n _ => ar (Nat.ble 1 n) (hp.own M b 0 fun _ _ _ _ => k a hp)) (fun _ _ _ _ => .fail) (fun _ => .fail) (fun _ _ => .fail)) = R) :
    k a hp = R ∧ ∀ {w : World} {F : Nat → Prop} {μ : Mu} {u : Value}, ao w F μ a u → aP V μ F hp w → me V μ F hp w (convert s s u) hp fun w' F' μ' r => ao w' F' μ' a r ∧ μ' = μ := by
  rcases gV hR g with ⟨b, o, n, y, rfl, g⟩ | ⟨t, o, n, y, rfl, g⟩ | ⟨i', t, a', b', c, rfl, g⟩ | ⟨s, n, rfl, g⟩
  · obtain ⟨hn, g2⟩ := ax hR g
    rw [bA] at hn
    obtain ⟨fl, z, sz, t, hB, _, hpr, g3⟩ := wM ok hR g2
    refine ⟨g3, fun {w F μ u} ha H => ?_⟩
    cases ha with
    | ms0 => omega
    | @ms _ _ _ _ _ cap m hm hc hcs =>
      have hb := H.c8 b
      rw [hB] at hb
      obtain ⟨m', c, T, fz, p1, p2, p3, p4, p5, p6, p7⟩ := hb
      rw [hm] at p1; cases p1
      have hshape : w.shape? m.c8 = some (T, c.size) := by simp [World.shape?, p2]
      let fz' : Nat × Nat := if fz.1 = fz.2 then (c.size, c.size + 1) else (min fz.1 c.size, max fz.2 (c.size + 1))
      have hmod : (w.freeze ⟨m.c8, c.size, none⟩ 1).heap[m.c8]? = some (.cells c T fz') := by
        simp only [World.freeze, Nat.one_ne_zero, if_false, Array.getElem?_modify, p2, if_true, Option.map_some, fz']
        obtain ⟨f1, f2⟩ := fz
        simp only [beq_iff_eq]
      have hoth : ∀ X, X ≠ m.c8 → (w.freeze ⟨m.c8, c.size, none⟩ 1).heap[X]? = w.heap[X]? := fun X hX => by
        simp only [World.freeze, Nat.one_ne_zero, if_false, Array.getElem?_modify, if_neg (Ne.symm hX)]
      have hsz : (w.freeze ⟨m.c8, c.size, none⟩ 1).heap.size = w.heap.size := by
        simp only [World.freeze, Nat.one_ne_zero, if_false, Array.size_modify]
      have hwr : (hp.at b).wr := by rw [hB]; exact rfl
      have hF : ∀ X, F X → (w.freeze ⟨m.c8, c.size, none⟩ 1).heap[X]? = w.heap[X]? := fun X hX => hoth X fun e => (p6 rfl).2 (e ▸ hX)
      obtain ⟨hH, hE⟩ := H.set (h' := hp) hwr hpr hm hsz hoth (B := hp.at b) ⟨fun c => by
          by_cases e : c = b
          · rw [if_pos e, e]
          · rw [if_neg e], Nat.le_refl _, rfl, rfl⟩ (by
        rw [hB]
        refine ⟨m, c, T, fz', hm, hmod, p3, fun i hi => ?_, p5, fun _ => ⟨?_, (p6 rfl).2⟩, fun e => Bool.noConfusion e⟩
        · obtain ⟨u, h1, h2, h3⟩ := p4 i hi
          exact ⟨u, h1, h2, h3.mono hF (fun _ h => h) (fun _ _ h => h)⟩
        · right
          simp only [fz']
          split
          · exact Nat.le_refl _
          · rcases (p6 rfl).1 with h | h
            · contradiction
            · show c.size ≤ min fz.1 c.size
              omega)
      refine ⟨μ, F, _, .slice (some ⟨m.c8, m.base + o, none⟩) n cap, ?_, ⟨.ms hm hc hcs, rfl⟩, hH, hE⟩
      simp [convert, run_underlying (aE hs).1, run_underlying (oO he), markStringish, hshape]
  · exact an hR g
  · exact an hR g
  · exact an hR g
end
section
variable {M : Mem} (ok : cW M) {R : aa} (hR : R ≠ .fail)
end
section
variable {V : Env} {M : Mem} (ok : cW M) {R : aa} (hR : R ≠ .fail)
include ok hR
end
def CR (w : World) (F : Nat → Prop) (μ : Mu) (f : Nat → AV) (cs : Array Value) (n : Nat) : Prop := cs.size = n ∧ ∀ i, i < n → ∃ y, cs[i]? = some y ∧ y.oneCell' = true ∧ ao w F μ (f i) y
theorem CR.set {w : World} {F : Nat → Prop} {μ : Mu} {f f' : Nat → AV} {cs : Array Value} {n off sz : Nat} {v : AV} {u : Value} (h : CR w F μ f cs n) (hf : Fits v sz) (hv : ao w F μ v u) (hp : ∀ j, f' j = if off ≤ j ∧ j < off + sz then cv v (j - off) else f j) (hle : off + sz ≤ n) :
    u.cells.size = sz ∧ ¬ (off + u.cells.size > cs.size) ∧ CR w F μ f' (u.cells.zipIdx.foldl (fun cs (p : Value × Nat) => cs.setIfInBounds (off + p.2) p.1) cs) n := by
  obtain ⟨h1, h2⟩ := pJ hf hv
  refine ⟨h1, by rw [h1, h.1]; omega, ?_⟩
  obtain ⟨q1, q2⟩ := tV off u.cells.toList 0 cs
  have e : u.cells.zipIdx.foldl (fun (cs : Array Value) (p : Value × Nat) => cs.setIfInBounds (off + p.2) p.1) cs = (u.cells.toList.zipIdx 0).foldl (fun (cs : Array Value) (p : Value × Nat) => cs.setIfInBounds (off + p.2) p.1) cs := by
    rw [← Array.foldl_toList, Array.toList_zipIdx]
  rw [e]
  refine ⟨by rw [q1, h.1], fun i hi => ?_⟩
  have hl : u.cells.toList.length = sz := by rw [Array.length_toList, h1]
  rw [q2 i, hp i, hl, h.1, Nat.add_zero]
  by_cases c : off ≤ i ∧ i < off + sz
  · rw [if_pos ⟨c.1, c.2, hi⟩, if_pos c]
    obtain ⟨y, r1, r2, r3⟩ := h2 (i - off) (by omega)
    exact ⟨y, by rw [Array.getElem?_toList]; exact r1, r2, r3⟩
  · rw [if_neg (fun q => c ⟨q.1, q.2.1⟩), if_neg c]; exact h.2 i hi
theorem we {o z : Nat → Nat} {n : Nat} : ∀ {l : List (Nat × Operand)}, a3h o z n l = true → ∀ p ∈ l, o p.1 + z p.1 ≤ n
  | [], _, p, hp => by cases hp
  | a :: l, h, p, hp => by
    have h' : bp (Nat.ble (Nat.add (o a.1) (z a.1)) n) (a3h o z n l) = true := h
    rw [cI, bA] at h'
    rcases List.mem_cons.1 hp with rfl | hp
    · exact h'.1
    · exact we h'.2 p hp
section
variable {C : Cx} {g : G} {R : aa}
theorem ais (ok : cW C.M) (hR : R ≠ .fail) {o : Nat → Nat} {z : Nat} {sk : Row} {fr : Fr} : ∀ {ps : List (Nat × Operand)} {t : Row} {f : Bool} {k : Row → Bool → aa}, (vk C.M z (partsOf C g ps o fun _ => z)).f sk fr t f k = R →
    ∃ t' f', k t' f' = R ∧ (∀ {n : Nat}, (∀ p ∈ ps, o p.1 + z ≤ n) → (f = true → ∀ i, i < n → (cellAt z t i).cM = true) → (f' = true → ∀ i, i < n → (cellAt z t' i).cM = true)) ∧
      ∀ {w : World} {F : Nat → Prop} {μ : Mu} {ρ : Operand → Value} {cs : Array Value} {n : Nat} {place : Nat → Option (Nat × Nat)}, (∀ p ∈ ps, ao w F μ (ov C g sk fr p.2) (ρ p.2)) → CR w F μ (cellAt z t) cs n → (∀ p ∈ ps, o p.1 + z ≤ n) →
      (∀ p ∈ ps, place p.1 = some (o p.1, z)) → ∃ cs', Instr.fill place cs (ps.map fun p => (p.1, ρ p.2)) = some cs' ∧ CR w F μ (cellAt z t') cs' n := by
  intro ps
  induction ps with
  | nil => intro t f k h; exact ⟨t, f, h, fun _ h => h, fun {w F μ ρ cs n place} _ hl _ _ => ⟨cs, rfl, hl⟩⟩
  | cons p r ih =>
    intro t f k h
    have h1 := bP hR (k := fun v => wrV C.M z z t (o p.1) v fun t b => (vk C.M z (partsOf C g r o fun _ => z)).f sk fr t (bp f b) k) h
    obtain ⟨t1, b, hf, hs, hfree, h2⟩ := a7w ok hR h1
    obtain ⟨t', f', h3, H1, H2⟩ := ih h2
    refine ⟨t', f', h3, fun {n} hle hfr => H1 (fun q hq => hle q (List.mem_cons_of_mem _ hq)) fun e i hi => ?_, fun {w F μ ρ cs n place} hρ hl hle hpl => ?_⟩
    · rw [cI] at e
      rw [hs]
      by_cases c : o p.1 ≤ i ∧ i < o p.1 + z
      · rw [if_pos c]
        rcases hfree e.2 (i - o p.1) (by omega) with h | ⟨l, n, hl, h⟩
        · exact fx h
        · rw [hl]
          show (nth l (i - o p.1)).cM = true
          rw [yv h]; rfl
      · rw [if_neg c]; exact hfr e.1 i hi
    · obtain ⟨e1, e2, e3⟩ := hl.set hf (hρ p (List.mem_cons_self ..)) hs (hle p (List.mem_cons_self ..))
      obtain ⟨cs', q1, q2⟩ := H2 (ρ := ρ) (place := place) (fun q hq => hρ q (List.mem_cons_of_mem _ hq)) e3 (fun q hq => hle q (List.mem_cons_of_mem _ hq)) (fun q hq => hpl q (List.mem_cons_of_mem _ hq))
      refine ⟨cs', ?_, q2⟩
      rw [List.map_cons, Instr.fill, hpl p (List.mem_cons_self ..)]
      simp only []
      rw [if_neg]
      · exact q1
      · simp only [Bool.or_eq_true, decide_eq_true_eq]
        rintro (h | h)
        · exact h e1
        · exact e2 h
theorem vR (ok : cW C.M) (hR : R ≠ .fail) {V : Env} {N : NK} {hp : Hp} {id : Nat} (hN : iQ N hp id) {t e : TypeId} {len : Nat} {ps : Array (Nat × Operand)} {sk : Row} {fr : Fr} {k : AV → Hp → aa} (ht : eI V.P t = some (.slice e)) {z : Nat} (hsz : bw V.P e = z) (hz : 1 ≤ z)
    (hzk : fi V.P e z = true) (hb : len * z ≤ 16777216) (hfit : a3h (fun i => i * z) (fun _ => z) (len * z) ps.toList = true)
    (h : (vk C.M z (partsOf C g ps.toList (fun i => i * z) fun _ => z)).f sk fr (Tr.full (gr V.P e) (depth len)) true (fun r f => N.f hp (.row true f z (len * z) r) fun id hp => k (.ms id 0 len z) hp) = R) :
    ∃ B hp', k (.ms id 0 len z) hp' = R ∧ fq hp id B hp' ∧ id < hp'.nx ∧ New V (fun w F μ (ρ : Operand → Value) => ∀ p ∈ ps.toList, ao w F μ (ov C g sk fr p.2) (ρ p.2)) (fun ρ => Instr.buildSlice t len (ps.map fun (i, x) => (i, ρ x))) id B (.ms id 0 len z) := by
  obtain ⟨i, zv, q1, q2, q3, q4, q5⟩ := j8 hzk
  have hi : i.size = z := by rw [← hsz, dP q1]
  obtain ⟨r, f, h2, H1, H2⟩ := ais ok hR h
  obtain ⟨hp', h3, hset, hid⟩ := hN hR rfl rfl h2
  have hle := we hfit
  have hc : ∀ i, i < len * z → cellAt z (Tr.full (gr V.P e) (depth len)) i = zc V.P e z (i % z) := fun i hi => by rw [uG (by omega) hi]; rfl
  refine ⟨_, hp', h3, hset, hid, vI (fun e i hi => H1 hle (fun _ i hi => by
    rw [hc i hi]
    obtain ⟨y, _, _, _, hf⟩ := q5 (i % z) (Nat.mod_lt _ (by omega))
    exact hf) e i hi) fun {w F μ ρ} hρ => ?_⟩
  have hz0 : CR w F μ (cellAt z (Tr.full (gr V.P e) (depth len))) ((Array.range (len * z)).map (zv.cells[· % zv.cells.size]!)) (len * z) := by
    refine ⟨by simp, fun j hj => ?_⟩
    obtain ⟨y, h1, h2, h3, _⟩ := q5 (j % z) (Nat.mod_lt _ (by omega))
    refine ⟨y, ?_, h2, by rw [hc j hj]; exact h3 w F μ⟩
    rw [Array.getElem?_map, Array.getElem?_range, if_pos hj, q4]
    show some (zv.cells[j % z]!) = some y
    rw [getElem!_def, h1]
  obtain ⟨cs, e1, e2, e3⟩ := H2 (ρ := ρ) (place := fun i => some (i * z, z)) hρ hz0 hle (fun p _ => rfl)
  have hmap : (ps.map fun (i, x) => (i, ρ x)).toList = ps.toList.map fun p => (p.1, ρ p.2) := by rw [Array.toList_map]
  refine ⟨.slice (some ⟨w.heap.size, 0, none⟩) len len, w.alloc (.cells cs e), cs, e, (0, 0), ?_, ⟨rfl, rfl, rfl⟩, .inl rfl, e3, fun {μ'} hμ => .ms hμ (Nat.le_refl _) (by show 0 + 0 + len * z ≤ cs.size; rw [e2]; omega)⟩
  by_cases h0 : len * z = 0
  · have hnil : ((Array.range (len * z)).map (zv.cells[· % zv.cells.size]!)) = ((Array.range (len * z)).map ((#[] : Array Value)[· % (#[] : Array Value).size]!)) := by rw [h0]; simp
    rw [hnil] at e1
    simp [Instr.buildSlice, run_underlying (aE ht).1, sizeOf, typeInfo, q2, hi, h0, newRow]
    rw [h0] at e1
    simp at e1
    simp [e1]
  · have : ¬ len * z > 2 ^ 24 := by omega
    simp only [Instr.buildSlice, Sem.run_bind, run_underlying (aE ht).1, Result.andThen_ok, sizeOf, typeInfo, hmap, zeroValue]
    simp [q2, q3, hi, h0, this, e1, newRow]
end
def Wf (r : Option Nat) : Fence := { fn := fun _ => True, depth := none, alive := false, round := r }
def qw (w : World) (F : Nat → Prop) (μ : Mu) (O : Operand → AV) (l : List Operand) (ρ : Operand → Value) : Prop := ∀ x ∈ l, ao w F μ (O x) (ρ x)
def Nx (r : Next) (x : Value) : Prop := r = .value x ∨ (r = .skip ∧ x = undef)
def kN (id : Nat) (hp : Hp) (μ μ' : Mu) : Prop := ∀ b, μ' b ≠ none → μ b ≠ none ∨ b = id ∨ hp.nx ≤ b
theorem ki.news {id : Nat} {hp : Hp} {μ μ' : Mu} (h : ki id μ μ') : kN id hp μ μ' := fun b hb => (h b hb).imp (fun h => h) .inl
theorem kN.refl (id : Nat) (hp : Hp) (μ : Mu) : kN id hp μ μ := fun _ h => .inl h
def rj (V : Env) (μ : Mu) (F : Nat → Prop) (h : Hp) (w : World) (s : Sem Next) (v : AV) (id : Nat) (h' : Hp) : Prop :=
  ∃ r x w' μ' F', s.run V.P w = .ok r w' ∧ Nx r x ∧ ao w' F' μ' v x ∧ ki id μ μ' ∧ aP V μ' F' h' w' ∧ Ext μ F h w μ' F' h' w'
inductive o8 (V : Env) (O : Operand → AV) (o : Oper) (id : Nat) (hp : Hp) (v : AV) (hp' : Hp) : Nat → Prop
  | pure (h : hp' = hp) (H : ∀ {w : World} {F : Nat → Prop} {μ : Mu} {ρ : Operand → Value}, qw w F μ O o.op.operands.toList ρ → ∃ r x, (execOp ρ o).run V.P w = .ok r w ∧ Nx r x ∧ ao w F μ v x) : o8 V O o id hp v hp' 0
  | read (p : Operand) (h : hp' = hp) (hsp : spot o.op = some p) (hm : p ∈ o.op.operands.toList) (hl : gE hp (O p)) (H : ∀ {w : World} {F : Nat → Prop} {μ : Mu} {ρ : Operand → Value}, qw w F μ O o.op.operands.toList ρ → ni V w F μ hp (O p) → ∃ r x, (execOp ρ o).run V.P w = .ok r w ∧ Nx r x ∧ ao w F μ v x) : o8 V O o id hp v hp' 1
  | make (B : bX) (hs : fq hp id B hp') (hn : id < hp'.nx) (H : ∀ {w : World} {F : Nat → Prop} {μ : Mu} {ρ : Operand → Value} {h h' : Hp}, qw w F μ O o.op.operands.toList ρ → μ id = none → aP V μ F h w → fq h id B h' → id < h'.nx → rj V μ F h w (execOp ρ o) v id h') : o8 V O o id hp v hp' 2
  | other (H : ∀ {w : World} {F : Nat → Prop} {μ : Mu} {a : Act} {r : Option Nat} {n : Nat} {Q : Exit → Act → World → Prop} {K : Act → World → Prop}, qw w F μ O o.op.operands.toList a.eval → μ id = none → aP V μ F hp w →
      (∀ x w' μ' F', ao w' F' μ' v x → kN id hp μ μ' → aP V μ' F' hp' w' → Ext μ F hp w μ' F' hp' w' → K (a.put o.dst x) w') → o.wpIn (Wf r) n V.P a w K Q) : o8 V O o id hp v hp' 3
theorem ks {V : Env} {o : Oper} {a : Act} {w w' : World} {r : Option Nat} {n : Nat} {Q : Exit → Act → World → Prop} {K : Act → World → Prop} {nx : Next} {x : Value} (hd : ∀ c, o.op ≠ .defer c) (h : (execOp a.eval o).run V.P w = .ok nx w') (hx : Nx nx x) (hk : K (a.put o.dst x) w') : o.wpIn (Wf r) n V.P a w K Q := by
  refine ⟨fun _ _ => trivial, ?_⟩
  rw [Oper.semAt_eq _ _ _ hd, h]
  rcases hx with rfl | ⟨rfl, rfl⟩
  · exact hk
  · exact hk
theorem o8.wp {V : Env} {O : Operand → AV} {o : Oper} {id : Nat} {hp : Hp} {v : AV} {hp' : Hp} {kd : Nat} (k : o8 V O o id hp v hp' kd) (hd : ∀ c, o.op ≠ .defer c) {w : World} {F : Nat → Prop} {μ : Mu} {a : Act} {r : Option Nat} {n : Nat} {Q : Exit → Act → World → Prop} {K : Act → World → Prop}
    (hO : qw w F μ O o.op.operands.toList a.eval) (hid : μ id = none) (H : aP V μ F hp w) (hK : ∀ x w' μ' F', ao w' F' μ' v x → kN id hp μ μ' → aP V μ' F' hp' w' → Ext μ F hp w μ' F' hp' w' → K (a.put o.dst x) w') : o.wpIn (Wf r) n V.P a w K Q := by
  cases k with
  | pure h G =>
    subst h
    obtain ⟨nx, x, h1, h2, h3⟩ := G hO
    exact ks hd h1 h2 (hK x w μ F h3 (kN.refl _ _ _) H (Ext.refl _ _ _ _))
  | read p h hsp hm hl G =>
    subst h
    obtain ⟨nx, x, h1, h2, h3⟩ := G hO (H.read _)
    exact ks hd h1 h2 (hK x w μ F h3 (kN.refl _ _ _) H (Ext.refl _ _ _ _))
  | make B hs hn G =>
    obtain ⟨nx, x, w', μ', F', h1, h2, h3, h4, h5, h6⟩ := G hO hid H hs hn
    exact ks hd h1 h2 (hK x w' μ' F' h3 h4.news h5 h6)
  | other G => exact G hO hid H hK
section
variable {V : Env} {O : Operand → AV} {o : Oper} {id : Nat} {hp hp' : Hp} {v : AV}
theorem ek {P : Program} {s : Sem Value} {w w' : World} {x : Value} (h : s.run P w = .ok x w') : ((do pure (.value (← s)) : Sem Next)).run P w = .ok (.value x) w' := by
  rw [Sem.run_bind, h]; rfl
theorem ady {P : Program} {s : Sem Unit} {w w' : World} (h : s.run P w = .ok () w') : ((do s; pure .skip : Sem Next)).run P w = .ok .skip w' := by
  rw [Sem.run_bind, h]; rfl
theorem o8.pure1 {x : Operand} {s : Value → Sem Value} (hx : x ∈ o.op.operands.toList) (he : ∀ ρ, execOp ρ o = (do Pure.pure (.value (← s (ρ x))))) (h : pT V.P s (O x) v) : o8 V O o id hp v hp 0 := .pure rfl fun hO => by
  obtain ⟨r, h1, h2⟩ := h (hO x hx)
  exact ⟨_, r, by rw [he]; exact ek h1, .inl rfl, h2⟩
theorem o8.pure2 {x y : Operand} {s : Value → Value → Sem Value} (hx : x ∈ o.op.operands.toList) (hy : y ∈ o.op.operands.toList) (he : ∀ ρ, execOp ρ o = (do Pure.pure (.value (← s (ρ x) (ρ y))))) (h : iq V.P s (O x) (O y) v) : o8 V O o id hp v hp 0 := .pure rfl fun hO => by
  obtain ⟨r, h1, h2⟩ := h (hO x hx) (hO y hy)
  exact ⟨_, r, by rw [he]; exact ek h1, .inl rfl, h2⟩
theorem o8.aga {x : Operand} {s : Value → Sem Value} (hsp : spot o.op = some x) (hx : x ∈ o.op.operands.toList) (he : ∀ ρ, execOp ρ o = (do Pure.pure (.value (← s (ρ x))))) (hl : gE hp (O x)) (h : acO V s hp (O x) v) : o8 V O o id hp v hp 1 := .read x rfl hsp hx hl fun hO hr => by
  obtain ⟨r, h1, h2⟩ := h (hO x hx) hr
  exact ⟨_, r, by rw [he]; exact ek h1, .inl rfl, h2⟩
theorem o8.new {α : Type} {Q : World → (Nat → Prop) → Mu → α → Prop} {s : α → Sem Value} {B : bX} (A : (Operand → Value) → α) (he : ∀ ρ, execOp ρ o = (do Pure.pure (.value (← s (A ρ))))) (hQ : ∀ {w : World} {F : Nat → Prop} {μ : Mu} {ρ : Operand → Value}, qw w F μ O o.op.operands.toList ρ → Q w F μ (A ρ)) (hs : fq hp id B hp') (hn : id < hp'.nx) (h : New V Q s id B v) : o8 V O o id hp v hp' 2 :=
  .make B hs hn fun hO hid hH hs' hn' => by
    obtain ⟨μ', F', w', x, h1, ⟨h2, h3⟩, h4, h5⟩ := h.out (hQ hO) hid hH hs' hn'
    exact ⟨_, x, w', μ', F', by rw [he]; exact ek h1, .inl rfl, h2, h3, h4, h5⟩
theorem o8.does (hd : ∀ c, o.op ≠ .defer c) (h : ∀ {w : World} {F : Nat → Prop} {μ : Mu} {ρ : Operand → Value}, qw w F μ O o.op.operands.toList ρ → μ id = none → aP V μ F hp w → rj V μ F hp w (execOp ρ o) v id hp') : o8 V O o id hp v hp' 3 := .other fun hO hid hH hK => by
  obtain ⟨nx, x, w', μ', F', h1, h2, h3, h4, h5, h6⟩ := h hO hid hH
  exact ks hd h1 h2 (hK x w' μ' F' h3 h4.news h5 h6)
theorem rj.of {μ : Mu} {F : Nat → Prop} {w : World} {ρ : Operand → Value} {s : Sem Value} {Q : World → (Nat → Prop) → Mu → Value → Prop} (he : execOp ρ o = (do Pure.pure (.value (← s)))) (h : me V μ F hp w s hp' Q) (hQ : ∀ w' F' μ' r, Q w' F' μ' r → ao w' F' μ' v r ∧ ki id μ μ') : rj V μ F hp w (execOp ρ o) v id hp' := by
  obtain ⟨μ', F', w', x, h1, h2, h3, h4⟩ := h
  exact ⟨_, x, w', μ', F', by rw [he]; exact ek h1, .inl rfl, (hQ _ _ _ _ h2).1, (hQ _ _ _ _ h2).2, h3, h4⟩
theorem tw {w : World} {F : Nat → Prop} {μ : Mu} : ao w F μ dw undef := .bB (fun _ => undef) rfl (fun _ hi => absurd hi (Nat.not_lt_zero _)) fun _ hi => absurd hi (Nat.not_lt_zero _)
theorem rj.ofU {μ : Mu} {F : Nat → Prop} {w : World} {ρ : Operand → Value} {s : Sem Unit} (he : execOp ρ o = (do s; Pure.pure .skip)) (h : me V μ F hp w s hp' fun _ _ μ' _ => μ' = μ) : rj V μ F hp w (execOp ρ o) dw id hp' := by
  obtain ⟨μ', F', w', x, h1, rfl, h3, h4⟩ := h
  exact ⟨_, undef, w', _, F', by rw [he]; exact ady h1, .inr ⟨rfl, rfl⟩, tw, ki.refl _ _, h3, h4⟩
end
end Go.Proofs.YtbamejikafhenaaDoor.Ev
