import Derived.Test.YtdlohaedegmiaaaGreatDoorEvAJ
namespace Go.Proofs.YtdlohaedegmiaaaGreatDoor.Ev
theorem cY (m i : Nat) : bit m i = m.testBit i := by
  rw [Nat.testBit_eq_decide_div_mod_eq]
  show Nat.beq (m / 2 ^ i % 2) 1 = decide (m / 2 ^ i % 2 = 1)
  exact ja _ _
theorem aB (a b : Bool) : (az a b = true) = (a = true ∧ b = true) := by cases a <;> cases b <;> simp [az]
theorem eQ {α : Type} {f : α → Bool} : ∀ {l : List α}, kZ f l = true → ∀ x ∈ l, f x = true
  | [], _, x, hx => by cases hx
  | a :: l, h, x, hx => by
    have h' : az (f a) (kZ f l) = true := h
    rw [aB] at h'
    rcases List.mem_cons.1 hx with rfl | hx
    · exact h'.1
    · exact eQ h'.2 x hx
theorem oY {α : Type} (d : α) : ∀ (l : List α) (i : Nat), l9 d l i = (l[i]?).getD d
  | [], i => by cases i <;> rfl
  | a :: l, 0 => rfl
  | a :: l, i + 1 => by
    have := oY d l i
    rw [List.getElem?_cons_succ]; exact this
theorem xK : ∀ (l acc : List Nat), jB l acc = l.reverse ++ acc
  | [], acc => rfl
  | a :: l, acc => by
    show jB l (a :: acc) = _
    rw [xK l (a :: acc), List.reverse_cons, List.append_assoc]; rfl
theorem mv {l : List Nat} {n a : Nat} : ∀ {es : List Edge}, bit (cB l n es) a = true → ∃ e ∈ es, cr e = true ∧ (a = e.on ∨ bit (l9 0 l (n - 1 - e.on)) a = true)
  | [], h => by
    rw [cY] at h
    have : cB l n [] = 0 := rfl
    rw [this] at h; simp at h
  | e :: es, h => by
    have e0 : cB l n (e :: es) = if cr e = true then Nat.lor (cB l n es) (Nat.lor (Nat.pow 2 e.on) (l9 0 l (n - 1 - e.on))) else cB l n es := by
      show (Bool.rec (motive := fun _ => Nat) (cB l n es) (Nat.lor (cB l n es) (Nat.lor (Nat.pow 2 e.on) (l9 0 l (Nat.sub (Nat.sub n 1) e.on)))) (cr e) : Nat) = _
      rw [aZ]; rfl
    have ih : bit (cB l n es) a = true → ∃ e' ∈ e :: es, cr e' = true ∧ (a = e'.on ∨ bit (l9 0 l (n - 1 - e'.on)) a = true) := fun h => by
      obtain ⟨e', h1, h2⟩ := mv h
      exact ⟨e', List.mem_cons_of_mem _ h1, h2⟩
    rw [e0] at h
    split at h
    · rename_i hb
      have h' : bit (cB l n es ||| (2 ^ e.on ||| l9 0 l (n - 1 - e.on))) a = true := h
      rw [cY, Nat.testBit_or, Nat.testBit_or, Bool.or_eq_true, Bool.or_eq_true] at h'
      rcases h' with h' | h' | h'
      · exact ih (by rw [cY]; exact h')
      · rw [Nat.testBit_two_pow] at h'
        exact ⟨e, List.mem_cons_self .., hb, .inl (by simp at h'; exact h'.symm)⟩
      · exact ⟨e, List.mem_cons_self .., hb, .inr (by rw [cY]; exact h')⟩
    · exact ih h
theorem kP : ∀ (ops : List Oper) (acc : List Nat) (n : Nat), ∃ ms : List Nat, cC ops acc n = ms.reverse ++ acc ∧ ms.length = ops.length ∧ ∀ j o, ops[j]? = some o → ms[j]? = some (cB ((ms.take j).reverse ++ acc) (n + j) o.after.toList)
  | [], acc, n => ⟨[], rfl, rfl, fun j o h => by cases h⟩
  | o :: ops, acc, n => by
    obtain ⟨ms, h1, h2, h3⟩ := kP ops (cB acc n o.after.toList :: acc) (n + 1)
    refine ⟨cB acc n o.after.toList :: ms, ?_, by rw [List.length_cons, List.length_cons, h2], fun j o' hj => ?_⟩
    · show cC ops (cB acc n o.after.toList :: acc) (Nat.succ n) = _
      rw [h1, List.reverse_cons, List.append_assoc]; rfl
    · cases j with
      | zero => cases hj; rfl
      | succ j =>
        have := h3 j o' hj
        rw [List.getElem?_cons_succ, this, List.take_succ_cons, List.reverse_cons, List.append_assoc, show n + 1 + j = n + (j + 1) by omega]
        rfl
theorem iD : ∀ {ops : List Oper} {n : Nat}, fZ ops n = true → ∀ j o, ops[j]? = some o → ∀ e ∈ o.after.toList, cr e = true → e.on < n + j
  | [], _, _, _, _, h => by cases h
  | o :: ops, n, h, j, o', hj => by
    have h' : az (kZ (fun e => Bool.rec (motive := fun _ => Bool) true (Nat.ble (Nat.succ e.on) n) (cr e)) o.after.toList) (fZ ops (Nat.succ n)) = true := h
    rw [aB] at h'
    cases j with
    | zero =>
      cases hj
      intro e he hb
      have := eQ h'.1 e he
      simp only [hb] at this
      rw [aK] at this
      omega
    | succ j =>
      intro e he hb
      have := iD h'.2 j o' hj e he hb
      omega
noncomputable def msk (ops : Array Oper) (i : Nat) : Nat := l9 0 (jB (cC ops.toList [] 0) []) i
theorem a4S {ops : Array Oper} (hb : fZ ops.toList 0 = true) {i a : Nat} {o : Oper} (ho : ops[i]? = some o) (h : bit (msk ops i) a = true) : ∃ e ∈ o.after.toList, cr e = true ∧ e.on < i ∧ (a = e.on ∨ bit (msk ops e.on) a = true) := by
  obtain ⟨ms, h1, h2, h3⟩ := kP ops.toList [] 0
  have hm : ∀ j, msk ops j = (ms[j]?).getD 0 := fun j => by
    unfold msk
    rw [oY, xK, h1]; simp
  have ho' : ops.toList[i]? = some o := by rw [Array.getElem?_toList]; exact ho
  have hi := h3 i o ho'
  rw [hm, hi] at h
  obtain ⟨e, e1, e2, e3⟩ := mv h
  have hlt : e.on < i := by have := iD hb i o ho' e e1 e2; omega
  refine ⟨e, e1, e2, hlt, e3.imp id fun h => ?_⟩
  rw [hm]
  have hil : i < ms.length := by rw [h2]; exact (List.getElem?_eq_some_iff.1 ho').1
  rw [oY, List.append_nil] at h
  have : ((ms.take i).reverse)[0 + i - 1 - e.on]? = ms[e.on]? := by
    have hl : (ms.take i).length = i := by rw [List.length_take]; omega
    rw [List.getElem?_reverse (by omega), hl, List.getElem?_take]
    rw [if_pos (by omega)]
    congr 1; omega
  rw [this] at h; exact h
theorem oT {P : Program} {ops : Array Oper} {ms : List Nat} : ∀ {l : List Oper} {i0 : Nat} {x : Dr}, x ∈ pM P ops l ms i0 → ∃ j o, l[j]? = some o ∧ x = ⟨i0 + j, o, cls P o.op, l9 0 ms (i0 + j), dE ops o⟩
  | [], _, _, h => by cases h
  | o :: l, i0, x, h => by
    have h' : x ∈ (⟨i0, o, cls P o.op, l9 0 ms i0, dE ops o⟩ : Dr) :: pM P ops l ms (Nat.succ i0) := h
    rcases List.mem_cons.1 h' with rfl | h'
    · exact ⟨0, o, rfl, rfl⟩
    · obtain ⟨j, o', h1, h2⟩ := oT h'
      exact ⟨j + 1, o', h1, by rw [h2, show Nat.succ i0 + j = i0 + (j + 1) by omega]⟩
theorem a0h {P : Program} {ops : Array Oper} {ms : List Nat} (o : Oper) (l : List Oper) (i0 : Nat) : pM P ops (o :: l) ms i0 = (⟨i0, o, cls P o.op, l9 0 ms i0, dE ops o⟩ : Dr) :: pM P ops l ms (i0 + 1) := rfl
theorem je {P : Program} {ops : Array Oper} {ms : List Nat} : ∀ (l : List Oper) (i0 : Nat), (pM P ops l ms i0).map (·.i) = List.range' i0 l.length
  | [], _ => rfl
  | o :: l, i0 => by rw [a0h, List.map_cons, je l (i0 + 1), List.length_cons, List.range'_succ]
theorem dG (i : Nat) (x : Dr) (l : List Dr) : bf i (x :: l) = if x.i = i then l else x :: bf i l := by
  show (Bool.rec (motive := fun _ => List Dr) (x :: bf i l) l (Nat.beq x.i i) : List Dr) = _
  rw [aZ]; simp only [an]
theorem eH {i : Nat} : ∀ (l : List Dr), (bf i l).Sublist l
  | [] => List.Sublist.slnil
  | x :: l => by
    rw [dG]
    split
    · exact (List.Sublist.refl l).cons _
    · exact (eH l).cons_cons _
theorem kQ {i : Nat} {y : Dr} (hi : y.i ≠ i) : ∀ {l : List Dr}, y ∈ l → y ∈ bf i l
  | x :: l, h => by
    rw [dG]
    by_cases e : x.i = i
    · rw [if_pos e]; exact (List.mem_cons.1 h).resolve_left fun q => hi (q ▸ e)
    · rw [if_neg e, List.mem_cons]; exact (List.mem_cons.1 h).imp id (kQ hi)
theorem gI {i : Nat} {y : Dr} : ∀ {l : List Dr}, (l.map (·.i)).Nodup → y ∈ bf i l → y.i ≠ i
  | [], _, h => by cases h
  | x :: l, hn, h => by
    rw [List.map_cons, List.nodup_cons] at hn
    rw [dG] at h
    by_cases e : x.i = i
    · rw [if_pos e] at h
      intro q
      exact hn.1 (by rw [e, ← q]; exact List.mem_map.2 ⟨y, h, rfl⟩)
    · rw [if_neg e] at h
      rcases List.mem_cons.1 h with rfl | h
      · exact e
      · exact gI hn.2 h
theorem kX {i : Nat} : ∀ (l : List Dr), (∃ x ∈ l, x.i = i) → (bf i l).length + 1 = l.length
  | [], ⟨x, h, _⟩ => by cases h
  | x :: l, ⟨y, hy, hyi⟩ => by
    rw [dG]
    by_cases e : x.i = i
    · rw [if_pos e, List.length_cons]
    · rw [if_neg e, List.length_cons, List.length_cons, kX l ⟨y, (List.mem_cons.1 hy).resolve_left fun q => e (q ▸ hyi), hyi⟩]
theorem km {D : Nat} {x : Dr} : ∀ {l : List Dr}, jx D l = some x → x ∈ l ∧ ready D x = true
  | [], h => by cases h
  | y :: l, h => by
    have h' : (Bool.rec (motive := fun _ => Option Dr) (jx D l) (some y) (ready D y) : Option Dr) = some x := h
    rw [aZ] at h'
    split at h'
    · cases h'; exact ⟨List.mem_cons_self .., by assumption⟩
    · obtain ⟨h1, h2⟩ := km h'; exact ⟨List.mem_cons_of_mem _ h1, h2⟩
theorem ko {D : Nat} {x : Dr} {no : Option Dr} : ∀ {l : List Dr}, jy D l no = some x → (x ∈ l ∧ ready D x = true) ∨ no = some x
  | [], h => .inr h
  | y :: l, h => by
    have h' : (Bool.rec (motive := fun _ => Option Dr) (jy D l no) (some y) (az (ready D y) (Nat.ble y.c 2)) : Option Dr) = some x := h
    rw [aZ] at h'
    split at h'
    · rename_i hb
      rw [aB] at hb
      cases h'; exact .inl ⟨List.mem_cons_self .., hb.1⟩
    · rcases ko h' with ⟨h1, h2⟩ | h
      · exact .inl ⟨List.mem_cons_of_mem _ h1, h2⟩
      · exact .inr h
theorem zp {D : Nat} {x : Dr} (h : ready D x = true) {a : Nat} (ha : bit x.m a = true) : bit D a = true := by
  have h' : Nat.beq (x.m &&& D) x.m = true := h
  rw [an] at h'
  rw [cY] at ha ⊢
  have : (x.m &&& D).testBit a = true := by rw [h']; exact ha
  rw [Nat.testBit_and, Bool.and_eq_true] at this
  exact this.2
theorem fG : ∀ (n D : Nat) (l : List Dr), (l.map (·.i)).Nodup → ∀ (k : Nat) (x : Dr), (order n D l)[k]? = some x → x ∈ l ∧ (∀ a, bit x.m a = true → bit D a = true ∨ ∃ (q : Nat) (y : Dr), q < k ∧ (order n D l)[q]? = some y ∧ y.i = a) ∧ ∀ (q : Nat) (y : Dr), (order n D l)[q]? = some y → y.i = x.i → q = k
  | 0, D, l, _, k, x, h => by cases h
  | n + 1, D, l, hnd, k, x, h => by
    have e0 : order (n + 1) D l = Option.rec (motive := fun _ => List Dr) [] (fun x => x :: order n (Nat.lor D (Nat.pow 2 x.i)) (bf x.i l)) (jy D l (jx D l)) := rfl
    cases hp : jy D l (jx D l) with
    | none => rw [e0, hp] at h; cases h
    | some z =>
      have e1 : order (n + 1) D l = z :: order n (D ||| 2 ^ z.i) (bf z.i l) := by rw [e0, hp]; rfl
      have hz : z ∈ l ∧ ready D z = true := (ko hp).elim id km
      have ih := fG n (D ||| 2 ^ z.i) (bf z.i l) (hnd.sublist ((eH l).map _))
      rw [e1] at h ⊢
      have far : ∀ (q : Nat) (y : Dr), (order n (D ||| 2 ^ z.i) (bf z.i l))[q]? = some y → y.i ≠ z.i := fun q y hy => gI hnd (ih q y hy).1
      cases k with
      | zero =>
        cases h
        refine ⟨hz.1, fun a ha => .inl (zp hz.2 ha), fun q y hy he => ?_⟩
        cases q with
        | zero => rfl
        | succ q => exact absurd he (far q y hy)
      | succ k =>
        obtain ⟨h1, h2, h3⟩ := ih k x h
        refine ⟨(eH l).subset h1, fun a ha => ?_, fun q y hy he => ?_⟩
        · rcases h2 a ha with h4 | ⟨q, y, h4, h5, h6⟩
          · rw [cY, Nat.testBit_or, Bool.or_eq_true, Nat.testBit_two_pow] at h4
            rcases h4 with h4 | h4
            · exact .inl (by rw [cY]; exact h4)
            · exact .inr ⟨0, z, Nat.succ_pos _, rfl, by simp at h4; exact h4⟩
          · exact .inr ⟨q + 1, y, Nat.succ_lt_succ h4, h5, h6⟩
        · cases q with
          | zero => cases hy; exact absurd he.symm (far k x h)
          | succ q => exact congrArg (· + 1) (h3 q y hy he)
theorem o9 : ∀ (n D : Nat) (l : List Dr), l.length ≤ n → (order n D l).length = n → ∀ y ∈ l, ∃ x ∈ order n D l, x.i = y.i
  | 0, D, l, hl, _, y, hy => by
    have : l = [] := List.length_eq_zero_iff.1 (Nat.le_zero.1 hl)
    subst this; cases hy
  | n + 1, D, l, hl, hn, y, hy => by
    have e0 : order (n + 1) D l = Option.rec (motive := fun _ => List Dr) [] (fun x => x :: order n (Nat.lor D (Nat.pow 2 x.i)) (bf x.i l)) (jy D l (jx D l)) := rfl
    cases hp : jy D l (jx D l) with
    | none => rw [e0, hp] at hn; cases hn
    | some z =>
      have e1 : order (n + 1) D l = z :: order n (D ||| 2 ^ z.i) (bf z.i l) := by rw [e0, hp]; rfl
      have hz : z ∈ l := ((ko hp).elim id km).1
      rw [e1] at hn ⊢
      by_cases e : y.i = z.i
      · exact ⟨z, List.mem_cons_self .., e.symm⟩
      · have hw := kX (i := z.i) l ⟨z, hz, rfl⟩
        obtain ⟨x, h1, h2⟩ := o9 n (D ||| 2 ^ z.i) (bf z.i l) (by omega) (by rw [List.length_cons] at hn; omega) y (kQ e hy)
        exact ⟨x, List.mem_cons_of_mem _ h1, h2⟩
theorem oe {f : Dr → Dr → Bool} : ∀ {l : List Dr}, a29 f l = true → ∀ (k j : Nat) (x y : Dr), k < j → l[k]? = some x → l[j]? = some y → f x y = true
  | [], _, _, _, _, _, _, h, _ => by cases h
  | z :: l, h, k, j, x, y, hkj, hx, hy => by
    have h' : az (kZ (fun y => f z y) l) (a29 f l) = true := h
    rw [aB] at h'
    cases j with
    | zero => omega
    | succ j =>
      cases k with
      | zero => cases hx; exact eQ h'.1 y (List.mem_of_getElem? hy)
      | succ k => exact oe h'.2 k j x y (by omega) hx hy
theorem fJ {x y : Dr} {d : Nat} (h : kB x y = true) (hd : x.o.dst = some d) : y.o.dst ≠ some d ∧ (d ∈ y.r → bit y.m x.i = true ∨ bit x.m y.i = true) := by
  unfold kB at h
  rw [hd] at h
  have h' : az (Option.rec (motive := fun _ => Bool) true (fun e => bZ (Nat.beq d e)) y.o.dst) (kZ (fun t => Bool.rec (motive := fun _ => Bool) true (Bool.rec (motive := fun _ => Bool) (bit x.m y.i) true (bit y.m x.i)) (Nat.beq t d)) y.r) = true := h
  rw [aB] at h'
  refine ⟨fun e => ?_, fun hm => ?_⟩
  · rw [e] at h'
    have := h'.1
    have e2 : bZ (Nat.beq d d) = true := this
    rw [cR, Nat.beq_refl] at e2; cases e2
  · have := eQ h'.2 d hm
    simp only [Nat.beq_refl] at this
    cases hb : bit y.m x.i with
    | true => exact .inl rfl
    | false => rw [hb] at this; exact .inr this
theorem e9 {x y : Dr} (h : pz x y = true) : bit y.m x.i = true ∨ y.c = 0 ∨ x.c ≤ 2 := by
  unfold pz at h
  cases hb : bit y.m x.i with
  | true => exact .inl rfl
  | false =>
    rw [hb] at h
    have h' : az (bZ (Nat.beq x.c 6)) (az (bZ (Nat.beq y.c 6)) (Bool.rec (motive := fun _ => Bool) (Nat.beq y.c 0) true (Nat.ble x.c 2))) = true := h
    rw [aB, aB] at h'
    have h2 := h'.2.2
    cases hc : Nat.ble x.c 2 with
    | true => rw [aK] at hc; exact .inr (.inr hc)
    | false => rw [hc] at h2; exact .inr (.inl (by rw [← an]; exact h2))
section
variable {M : Mem} (ok : aT M) {R : ab} (hR : R ≠ .fail)
include hR in
theorem kq {C : Cx} {g : G} {sk : Row} {fr : Fr} {k : List Nat → ab} : ∀ {l : List Dr} {acc : List Nat}, eZ sk fr (l.map (bI C g)) acc k = R →
    ∃ pl, k pl = R ∧ (∀ b ∈ acc, b ∈ pl) ∧ ∀ y ∈ l, ∃ p, spot y.o.op = some p ∧ (∀ t a b c, ov C g sk fr p ≠ .x 0 t a b c) ∧ ∀ b, dp (ov C g sk fr p) = some b → b ∈ pl
  | [], acc, h => ⟨acc, h, fun _ h => h, fun _ h => (by cases h)⟩
  | y :: l, acc, h => by
    cases hsp : spot y.o.op with
    | none =>
      have h' : (bI C g y).get sk fr _ = R := h
      unfold bI at h'
      rw [hsp] at h'; exact aa hR h'
    | some p =>
      have h1 : (cH C g p).get sk fr (fun v => v.on (fun _ _ => .fail) (fun _ => .fail) (fun _ _ => eZ sk fr (l.map (bI C g)) acc k) (fun b _ => eZ sk fr (l.map (bI C g)) (b :: acc) k) (fun b _ _ _ => eZ sk fr (l.map (bI C g)) (b :: acc) k) (fun _ _ _ _ => eZ sk fr (l.map (bI C g)) acc k) (fun _ _ => .fail) (fun _ _ => .fail)
        (fun g' _ b _ _ => when (Nat.beq g' 4) (eZ sk fr (l.map (bI C g)) (b :: acc) k) (aq (Nat.beq g' 1 || Nat.ble 6 g') (eZ sk fr (l.map (bI C g)) acc k)))) = R := by
        have h' : (bI C g y).get sk fr _ = R := h
        unfold bI at h'
        rw [hsp] at h'; exact h'
      have h2 := aE hR h1
      have plain : ∀ {q : AV}, ov C g sk fr p = q → dp q = none → (∀ t a b c, q ≠ .x 0 t a b c) → eZ sk fr (l.map (bI C g)) acc k = R → ∃ pl, k pl = R ∧ (∀ b ∈ acc, b ∈ pl) ∧ ∀ y' ∈ y :: l, ∃ p, spot y'.o.op = some p ∧ (∀ t a b c, ov C g sk fr p ≠ .x 0 t a b c) ∧ ∀ b, dp (ov C g sk fr p) = some b → b ∈ pl := fun {q} hq hs hn h => by
        obtain ⟨pl, q1, q2, q3⟩ := kq h
        refine ⟨pl, q1, q2, fun y' hy => ?_⟩
        rcases List.mem_cons.1 hy with rfl | hy
        · exact ⟨p, hsp, by rw [hq]; exact hn, fun b hb => by rw [hq, hs] at hb; cases hb⟩
        · exact q3 y' hy
      have block : ∀ {q : AV} {b0 : Nat}, ov C g sk fr p = q → (∀ b, dp q = some b → b = b0) → (∀ t a b c, q ≠ .x 0 t a b c) → eZ sk fr (l.map (bI C g)) (b0 :: acc) k = R → ∃ pl, k pl = R ∧ (∀ b ∈ acc, b ∈ pl) ∧ ∀ y' ∈ y :: l, ∃ p, spot y'.o.op = some p ∧ (∀ t a b c, ov C g sk fr p ≠ .x 0 t a b c) ∧ ∀ b, dp (ov C g sk fr p) = some b → b ∈ pl := fun {q b0} hq hs hn h => by
        obtain ⟨pl, q1, q2, q3⟩ := kq h
        refine ⟨pl, q1, fun b hb => q2 b (List.mem_cons_of_mem _ hb), fun y' hy => ?_⟩
        rcases List.mem_cons.1 hy with rfl | hy
        · exact ⟨p, hsp, by rw [hq]; exact hn, fun b hb => by rw [hq] at hb; rw [hs b hb]; exact q2 _ (List.mem_cons_self ..)⟩
        · exact q3 y' hy
      cases hv : ov C g sk fr p with
      | int => rw [hv] at h2; exact aa hR h2
      | bool => rw [hv] at h2; exact aa hR h2
      | str s n => rw [hv] at h2; exact plain hv rfl (fun _ _ _ _ => by simp) h2
      | ptr b o => rw [hv] at h2; exact block hv (fun c hc => by cases hc; rfl) (fun _ _ _ _ => by simp) h2
      | ms b o n z => rw [hv] at h2; exact block hv (fun c hc => by cases n with | zero => cases hc | succ n => cases hc; rfl) (fun _ _ _ _ => by simp) h2
      | vs t o n z => rw [hv] at h2; exact plain hv rfl (fun _ _ _ _ => by simp) h2
      | agg => rw [hv] at h2; exact aa hR h2
      | bM => rw [hv] at h2; exact aa hR h2
      | x g' t b c d =>
        rw [hv] at h2
        rcases ar hR (show when (Nat.beq g' 4) (eZ sk fr (l.map (bI C g)) (b :: acc) k) (aq (Nat.beq g' 1 || Nat.ble 6 g') (eZ sk fr (l.map (bI C g)) acc k)) = R from h2) with ⟨e, h3⟩ | ⟨e, h3⟩
        · rw [an] at e; subst e
          exact block hv (fun c hc => by cases hc; rfl) (fun _ _ _ _ => by simp) h3
        · obtain ⟨e2, h4⟩ := ah hR h3
          have hne : g' ≠ 4 := fun q => by rw [q] at e; cases e
          have hn0 : g' ≠ 0 := fun q => by rw [q] at e2; cases e2
          refine plain hv ?_ (fun _ _ _ _ q => by cases q; exact hn0 rfl) h4
          unfold dp
          split <;> first | rfl | (rename_i q; cases q; first | done | exact absurd rfl hne)
include ok hR
theorem nQ {k : List (Nat × aX) → Hp → ab} : ∀ {l : List Nat} {hp : Hp} {acc : List (Nat × aX)}, l.Nodup → rC M l hp acc k = R →
    ∃ h1, k ((l.map fun i => (hp.rb + i, hp.at (hp.rb + i))).reverse ++ acc) h1 = R ∧ h1.nx = hp.nx ∧ h1.pr = hp.pr ∧ h1.rb = hp.rb ∧ (∀ b, (∃ i ∈ l, b = hp.rb + i) → h1.at b = .dead) ∧ ∀ b, (¬ ∃ i ∈ l, b = hp.rb + i) → h1.at b = hp.at b
  | [], hp, acc, _, h => ⟨hp, h, rfl, rfl, rfl, fun b hb => (by obtain ⟨i, hi, _⟩ := hb; cases hi), fun _ _ => rfl⟩
  | i :: l, hp, acc, hn, h => by
    rw [List.nodup_cons] at hn
    have h1 : aA (Nat.add hp.rb i) (fun b => hp.get M b fun B => hp.put M b .dead fun hp => rC M l hp ((b, B) :: acc) k) = R := h
    rw [aw] at h1
    have h2 := bu ok hR h1
    obtain ⟨hq, hs, hnx, h3⟩ := bw ok hR h2
    obtain ⟨h4, q1, q2, q3, q4, q5, q6⟩ := nQ hn.2 h3
    have n4 : hq.rb = hp.rb := hs.rb
    have hother : ∀ j ∈ l, hq.at (hp.rb + j) = hp.at (hp.rb + j) := fun j hj => hs.ne fun e => hn.1 (by
      have : j = i := by have : hp.rb + j = hp.rb + i := e; omega
      rw [← this]; exact hj)
    refine ⟨h4, ?_, q2.trans hnx, q3.trans hs.pr, q4.trans n4, fun b hb => ?_, fun b hb => ?_⟩
    · rw [← q1]
      congr 1
      rw [List.map_cons, List.reverse_cons, List.append_assoc, n4]
      congr 2
      exact List.map_congr_left fun j hj => by rw [hother j hj]
    · obtain ⟨j, hj, rfl⟩ := hb
      rcases List.mem_cons.1 hj with rfl | hj
      · by_cases e : ∃ j' ∈ l, hp.rb + j = hq.rb + j'
        · exact q5 _ e
        · rw [q6 _ e]; exact hs.same
      · exact q5 _ ⟨j, hj, by rw [n4]⟩
    · have : ¬ ∃ j ∈ l, b = hq.rb + j := fun ⟨j, hj, e⟩ => hb ⟨j, List.mem_cons_of_mem _ hj, by rw [e, n4]⟩
      rw [q6 b this]
      exact hs.ne fun e => hb ⟨i, List.mem_cons_self .., e⟩
theorem nC {k : Hp → ab} : ∀ {l : List (Nat × aX)} {hp : Hp}, (l.map (·.1)).Nodup → nB M l hp k = R → ∃ h', k h' = R ∧ h'.nx = hp.nx ∧ h'.pr = hp.pr ∧ h'.rb = hp.rb ∧ (∀ p ∈ l, h'.at p.1 = p.2) ∧ ∀ b, b ∉ l.map (·.1) → h'.at b = hp.at b
  | [], hp, _, h => ⟨hp, h, rfl, rfl, rfl, fun _ h => (by cases h), fun _ _ => rfl⟩
  | p :: l, hp, hn, h => by
    rw [List.map_cons, List.nodup_cons] at hn
    obtain ⟨hq, hs, hnx, h1⟩ := bw ok hR (show hp.put M p.1 p.2 (fun hp => nB M l hp k) = R from h)
    obtain ⟨h', q1, q2, q3, q4, q5, q6⟩ := nC hn.2 h1
    refine ⟨h', q1, q2.trans hnx, q3.trans hs.pr, q4.trans hs.rb, fun x hx => ?_, fun b hb => ?_⟩
    · rcases List.mem_cons.1 hx with rfl | hx
      · rw [q6 _ hn.1]; exact hs.same
      · exact q5 x hx
    · rw [List.map_cons, List.mem_cons, not_or] at hb
      rw [q6 b hb.2]; exact hs.ne hb.1
theorem nR {h : Hp} {k : Hp → ab} : ∀ {l : List Nat} {hp : Hp}, kL M h l hp k = R → ∃ h', k h' = R ∧ h'.nx = hp.nx ∧ h'.pr = hp.pr ∧ h'.rb = hp.rb ∧ (∀ b ∈ l, Kept (h.at b) (hp.at b) (h'.at b)) ∧ ∀ b, b ∉ l → h'.at b = hp.at b
  | [], hp, g => ⟨hp, g, rfl, rfl, rfl, fun _ h => (by cases h), fun _ _ => rfl⟩
  | b :: l, hp, g => by
    have g1 := bu ok hR (show h.get M b (fun B => hp.get M b fun B' => aX.rec (motive := fun _ => ab) .fail (fun _ fl z s t => B'.o5 fun rw _ _ _ _ => hp.put M b (.row rw fl z s t) fun hp => kL M h l hp k) (fun n t => B'.eX fun _ _ => hp.put M b (.map n t) fun hp => kL M h l hp k) (fun _ _ _ _ => .fail) (fun _ => .fail) B) = R from g)
    have g2 := bu ok hR g1
    have rest : ∀ {X : aX}, Kept (h.at b) (hp.at b) X → hp.put M b X (fun hp => kL M h l hp k) = R → ∃ h', k h' = R ∧ h'.nx = hp.nx ∧ h'.pr = hp.pr ∧ h'.rb = hp.rb ∧ (∀ c ∈ b :: l, Kept (h.at c) (hp.at c) (h'.at c)) ∧ ∀ c, c ∉ b :: l → h'.at c = hp.at c := by
      intro X hX g
      obtain ⟨hq, hs, hnx, g'⟩ := bw ok hR g
      obtain ⟨h', q1, q2, q3, q4, q5, q6⟩ := nR g'
      refine ⟨h', q1, q2.trans hnx, q3.trans hs.pr, q4.trans hs.rb, fun c hc => ?_, fun c hc => ?_⟩
      · by_cases hcl : c ∈ l
        · have hk := q5 c hcl
          by_cases e : c = b
          · subst e
            rw [hs.same] at hk
            rcases hX with ⟨rw, rw', fl, fl', z, z', s, s', t, t', e1, e2, e3⟩ | ⟨n, n', t, t', e1, e2, e3⟩
            · rcases hk with ⟨rwa, rwa', fla, fla', za, za', sa, sa', ta, ta', o1, o2, o3⟩ | ⟨n, n', t, t', o1, o2, o3⟩
              · rw [e3] at o2; cases o2
                exact .inl ⟨rwa, rw', fla, fl', za, z', sa, s', ta, t', o1, e2, o3⟩
              · rw [e1] at o1; cases o1
            · rcases hk with ⟨rwa, rwa', fla, fla', za, za', sa, sa', ta, ta', o1, o2, o3⟩ | ⟨na, na', ta, ta', o1, o2, o3⟩
              · rw [e1] at o1; cases o1
              · exact .inr ⟨na, n', ta, t', o1, e2, o3⟩
          · rw [hs.ne e] at hk; exact hk
        · have e : c = b := (List.mem_cons.1 hc).resolve_right hcl
          subst e
          rw [q6 c hcl, hs.same]; exact hX
      · rw [List.mem_cons, not_or] at hc
        rw [q6 c hc.2]; exact hs.ne hc.1
    cases hB : h.at b with
    | dead => rw [hB] at g2; exact aa hR g2
    | fwd i => rw [hB] at g2; exact aa hR g2
    | loop => rw [hB] at g2; exact aa hR g2
    | row rw fl z s t =>
      rw [hB] at g2
      obtain ⟨rw', fl', z', s', t', e, g3⟩ := ki hR g2
      exact rest (by rw [hB]; exact .inl ⟨_, _, _, _, _, _, _, _, _, _, rfl, e, rfl⟩) g3
    | map n t =>
      rw [hB] at g2
      obtain ⟨n', t', e, g3⟩ := eY hR g2
      exact rest (by rw [hB]; exact .inr ⟨_, _, _, _, rfl, e, rfl⟩) g3
omit ok hR in
theorem a3F (a b : List Nat) : yg a b = a ++ b := by
  induction a with
  | nil => rfl
  | cons x a ih => exact congrArg (x :: ·) ih
structure oG (A pl : List Nat) (hp hA h2 h4 : Hp) : Prop where
  anx : hA.nx = hp.nx
  arb : hA.rb = hp.rb
  apr : hA.pr = pl ++ hp.pr
  ain : ∀ b, (∃ i ∈ A, b = hp.rb + i) → hA.at b = .dead
  aout : ∀ b, (¬ ∃ i ∈ A, b = hp.rb + i) → hA.at b = hp.at b
  nx : h4.nx = h2.nx
  nxle : hp.nx ≤ h4.nx
  pr : h4.pr = hp.pr
  rb : h4.rb = hp.rb
  kin : ∀ b, (∃ i ∈ A, b = hp.rb + i) → b ∉ pl → h4.at b = hp.at b
  kout : ∀ b, (¬ ∃ i ∈ A, b = hp.rb + i) → b ∉ pl → h4.at b = h2.at b
  pin : ∀ b, (∃ i ∈ A, b = hp.rb + i) → b ∈ pl → Kept (hp.at b) (hp.at b) (h4.at b)
  pout : ∀ b, (¬ ∃ i ∈ A, b = hp.rb + i) → b ∈ pl → Kept (hp.at b) (h2.at b) (h4.at b)
theorem zG {C : Cx} {g : G} {A : List Nat} (hA : A.Nodup) {l : List Dr} {s : Sm} {P : Pt} {k : Sm} {sk : Row} {fr : Fr} {hp : Hp} (h : (a7W M A (l.map (bI C g)) s P k).run sk fr hp = R) :
    ∃ pl hA v h2 h4, s.run sk fr hA = .val v h2 ∧ P.f k sk fr h4 v = R ∧ oG A pl hp hA h2 h4 ∧ ∀ y ∈ l, ∃ p, spot y.o.op = some p ∧ (∀ t a b c, ov C g sk fr p ≠ .x 0 t a b c) ∧ ∀ b, dp (ov C g sk fr p) = some b → b ∈ pl := by
  obtain ⟨pl, h1, _, hpl⟩ := kq hR (show eZ sk fr (l.map (bI C g)) [] (fun pl => rC M A hp [] fun sv h1 =>
    ab.rec (motive := fun _ => ab) (fun _ _ => .fail) (fun _ _ _ => .fail) (fun _ _ => .fail) (fun v h2 => nB M sv h2 fun h3 => kL M hp pl h3 fun h4 => Hp.rec (motive := fun _ => ab) (fun t nx _ _ => Hp.rec (motive := fun _ => ab) (fun _ nx0 pr rb => aq (Nat.ble nx0 nx) (P.f k sk fr ⟨t, nx, pr, rb⟩ v)) hp) h4) .fail (s.run sk fr (h1.a2b (yg pl hp.pr)))) = R from h)
  obtain ⟨hH, h2, a1, a2, a3, a4, a5⟩ := nQ ok hR hA h1
  rw [List.append_nil] at h2
  cases hres : s.run sk fr (hH.a2b (yg pl hp.pr)) with
  | val v hq =>
    rw [hres] at h2
    have hnd : (((A.map fun i => (hp.rb + i, hp.at (hp.rb + i))).reverse).map (·.1)).Nodup := by
      rw [List.map_reverse, List.map_map]
      show (List.reverse (A.map fun i => hp.rb + i)).Nodup
      exact List.pairwise_reverse.2 (List.Pairwise.map (fun i => hp.rb + i) (fun a b hne e => hne (by omega)) hA)
    obtain ⟨h3, g1, b1, b2, b3, b4, b5⟩ := nC ok hR hnd (show nB M ((A.map fun i => (hp.rb + i, hp.at (hp.rb + i))).reverse) hq (fun h3 => kL M hp pl h3 fun h4 => Hp.rec (motive := fun _ => ab) (fun t nx _ _ => Hp.rec (motive := fun _ => ab) (fun _ nx0 pr rb => aq (Nat.ble nx0 nx) (P.f k sk fr ⟨t, nx, pr, rb⟩ v)) hp) h4) = R from h2)
    obtain ⟨h4, g2, c1, c2, c3, c4, c5⟩ := nR ok hR g1
    obtain ⟨hle, g3⟩ := ah hR (show aq (Nat.ble hp.nx h4.nx) (P.f k sk fr ⟨h4.t, h4.nx, hp.pr, hp.rb⟩ v) = R from g2)
    rw [aK] at hle
    have hback : ∀ b, (∃ i ∈ A, b = hp.rb + i) → h3.at b = hp.at b := fun b ⟨i, hi, e⟩ => by
      subst e
      exact b4 (hp.rb + i, hp.at (hp.rb + i)) (List.mem_reverse.2 (List.mem_map.2 ⟨i, hi, rfl⟩))
    have hstay : ∀ b, (¬ ∃ i ∈ A, b = hp.rb + i) → h3.at b = hq.at b := fun b hb => b5 b fun hm => hb (by
      obtain ⟨p, hp', rfl⟩ := List.mem_map.1 hm
      obtain ⟨i, hi, rfl⟩ := List.mem_map.1 (List.mem_reverse.1 hp')
      exact ⟨i, hi, rfl⟩)
    refine ⟨pl, hH.a2b (yg pl hp.pr), v, hq, ⟨h4.t, h4.nx, hp.pr, hp.rb⟩, hres, g3, ⟨a1, a3, a3F _ _, a4, a5, c1.trans b1, hle, rfl, rfl, fun b hb hn => ?_, fun b hb hn => ?_, fun b hb hi => ?_, fun b hb hi => ?_⟩, hpl⟩
    · exact (c5 b hn).trans (hback b hb)
    · exact (c5 b hn).trans (hstay b hb)
    · have := c4 b hi
      rw [hback b hb] at this; exact this
    · have := c4 b hi
      rw [hstay b hb] at this; exact this
  | _ => rw [hres] at h2; exact aa hR h2
end
theorem ep.up {V : Env} {O : Operand → AV} {o : Oper} {id : Nat} {hp : Hp} {v : AV} {hp' : Hp} {kd : Nat} (k : ep V O o id hp v hp' kd) (hd : ∀ c, o.op ≠ .defer c) : ep V O o id hp v hp' 3 := .other fun hO hid H hK => k.wp hd hO hid H hK
theorem cK.low {V : Env} {ops : Array Oper} {O : Operand → AV} {o : Oper} {id : Nat} {hp : Hp} {v : AV} {hp' : Hp} {kd : Nat} (s : cK V ops O o id hp v hp' kd) (hk : kd ≤ 2) : hp.nx ≤ hp'.nx ∧ hp'.rb = hp.rb ∧ hp'.pr = hp.pr := by
  cases s with
  | skip hw hv hh => subst hh; exact ⟨Nat.le_refl _, rfl, rfl⟩
  | run hw hd k =>
    cases k with
    | pure h => subst h; exact ⟨Nat.le_refl _, rfl, rfl⟩
    | read p h => subst h; exact ⟨Nat.le_refl _, rfl, rfl⟩
    | make B hs hn => exact ⟨hs.nx, hs.rb, hs.pr⟩
    | other => omega
structure TP where
  x : Dr
  σ : Nat → AV
  σ' : Nat → AV
  O : Operand → AV
  h : Hp
  h' : Hp
  hA : Hp
  hB : Hp
  A : List Nat
  pl : List Nat
  v : AV
  kd : Nat
structure tU (V : Env) (ops : Array Oper) (nt rb n : Nat) (all dn : List Dr) (p : TP) : Prop where
  step : cK V ops p.O p.x.o (rb + p.x.i) p.hA p.v p.hB p.kd
  kdc : (p.kd = 3 ∧ 3 ≤ p.x.c) ∨ (p.kd ≤ 2 ∧ (p.kd = 1 → p.x.c = 1) ∧ (p.kd = 2 → p.x.c = 2))
  slot : fk p.σ p.σ' p.x.o.dst p.v
  dst : ∀ t, p.x.o.dst = some t → t < nt
  os : ∀ t, p.O (.tmp t) = p.σ t
  oo : ∀ (x : Operand) {w : World} {F : Nat → Prop} {μ : Mu} {a : Act}, V.pL w F → (∀ t, x = .tmp t → ae w F μ (p.σ t) (a.tmps.getD t undef)) → ae w F μ (p.O x) (a.eval x)
  oc : ∀ x : Operand, (∀ t, x ≠ .tmp t) → dp (p.O x) = none
  n4 : p.h.rb = rb
  nx : rb + n ≤ p.h.nx
  low : p.kd ≤ 2 → p.hA = p.h ∧ p.h' = p.hB
  wrap : p.kd = 3 → oG p.A p.pl p.h p.hA p.hB p.h'
  cA : p.kd = 3 → p.A = Go.Proofs.YtdlohaedegmiaaaGreatDoor.Ev.cA p.x dn
  eM : p.kd = 3 → ∀ y ∈ Go.Proofs.YtdlohaedegmiaaaGreatDoor.Ev.eM p.x dn, pI all y = true ∧ ∃ q, spot y.o.op = some q ∧ (∀ t a b c, p.O q ≠ .x 0 t a b c) ∧ ∀ b, dp (p.O q) = some b → b ∈ p.pl
inductive Trace (V : Env) (ops : Array Oper) (nt rb n : Nat) (all : List Dr) : (Nat → AV) → Hp → List Dr → List Dr → List TP → (Nat → AV) → Hp → Prop
  | nil (σ : Nat → AV) (h : Hp) (dn : List Dr) : Trace V ops nt rb n all σ h [] dn [] σ h
  | cons {l dn : List Dr} {ts : List TP} {σe : Nat → AV} {he : Hp} (p : TP) (ok : tU V ops nt rb n all dn p) (t : Trace V ops nt rb n all p.σ' p.h' l (p.x :: dn) ts σe he) : Trace V ops nt rb n all p.σ p.h (p.x :: l) dn (p :: ts) σe he
theorem kO (x y : Dr) (l : List Dr) : cA x (y :: l) = if az (Nat.beq y.c 2) (bZ (bit x.m y.i)) = true then y.i :: cA x l else cA x l := aZ _ _ _
theorem rV (x y : Dr) (l : List Dr) : eM x (y :: l) = if az (Nat.beq y.c 1) (bZ (bit x.m y.i)) = true then y :: eM x l else eM x l := aZ _ _ _
theorem iO (x : Dr) : ∀ (l : List Dr), (cA x l).Sublist (l.map (·.i))
  | [] => List.Sublist.slnil
  | y :: l => by
    rw [kO, List.map_cons]
    split
    · exact (iO x l).cons_cons _
    · exact (iO x l).cons _
theorem fB {y x : Dr} {c : Nat} : az (Nat.beq y.c c) (bZ (bit x.m y.i)) = true ↔ y.c = c ∧ bit x.m y.i = false := by
  rw [aB, an, cR, Bool.not_eq_true']
theorem dX {x : Dr} {i : Nat} : ∀ {l : List Dr}, i ∈ cA x l ↔ ∃ y ∈ l, y.i = i ∧ y.c = 2 ∧ bit x.m y.i = false
  | [] => ⟨fun h => (by cases h), fun ⟨_, h, _⟩ => by cases h⟩
  | y :: l => by
    rw [kO]
    by_cases e : az (Nat.beq y.c 2) (bZ (bit x.m y.i)) = true
    · rw [if_pos e, List.mem_cons, dX]
      rw [fB] at e
      constructor
      · rintro (rfl | ⟨z, h1, h2⟩)
        · exact ⟨y, List.mem_cons_self .., rfl, e⟩
        · exact ⟨z, List.mem_cons_of_mem _ h1, h2⟩
      · rintro ⟨z, h1, h2⟩
        rcases List.mem_cons.1 h1 with rfl | h1
        · exact .inl h2.1.symm
        · exact .inr ⟨z, h1, h2⟩
    · rw [if_neg e, dX]
      rw [fB] at e
      constructor
      · rintro ⟨z, h1, h2⟩; exact ⟨z, List.mem_cons_of_mem _ h1, h2⟩
      · rintro ⟨z, h1, h2⟩
        rcases List.mem_cons.1 h1 with rfl | h1
        · exact absurd h2.2 e
        · exact ⟨z, h1, h2⟩
theorem iP {x y : Dr} : ∀ {l : List Dr}, y ∈ eM x l ↔ y ∈ l ∧ y.c = 1 ∧ bit x.m y.i = false
  | [] => ⟨fun h => (by cases h), fun ⟨h, _⟩ => by cases h⟩
  | z :: l => by
    rw [rV]
    by_cases e : az (Nat.beq z.c 1) (bZ (bit x.m z.i)) = true
    · rw [if_pos e, List.mem_cons, iP, List.mem_cons]
      rw [fB] at e
      constructor
      · rintro (rfl | ⟨h1, h2⟩)
        · exact ⟨.inl rfl, e⟩
        · exact ⟨.inr h1, h2⟩
      · rintro ⟨rfl | h1, h2⟩
        · exact .inl rfl
        · exact .inr ⟨h1, h2⟩
    · rw [if_neg e, iP, List.mem_cons]
      rw [fB] at e
      constructor
      · rintro ⟨h1, h2⟩; exact ⟨.inr h1, h2⟩
      · rintro ⟨rfl | h1, h2⟩
        · exact absurd h2 e
        · exact ⟨h1, h2⟩
theorem yC {a : AV} (h : a.aS = true) : dp a = none := by
  cases a with
  | x gg t a b c =>
    unfold dp
    split <;> first | rfl | (rename_i q; cases q; first | done | (cases h))
  | _ => first | rfl | cases h
theorem wW {C : Cx} {g : G} {sk : Row} {fr : Fr} {vs : Vs} (hgl : ly C vs) (x : Operand) (hx : ∀ t, x ≠ .tmp t) : dp (ov C g sk fr x) = none := by
  cases x with
  | tmp t => exact absurd rfl (hx t)
  | const v =>
    show dp (bT v) = none
    by_cases h : ∃ cs, v = .agg cs
    · obtain ⟨cs, rfl⟩ := h
      rw [db]
      split <;> rfl
    · rw [fq fun cs e => h ⟨cs, e⟩]
      exact yC (dR v)
  | func f => rfl
  | global n =>
    rcases wV (C := C) (g := g) (sk := sk) (fr := fr) n with e | ⟨p, hp, _, e⟩
    · rw [e]; rfl
    · obtain ⟨t, a, b, c, e2⟩ := (hgl p hp).1
      rw [e, e2]; rfl
section
variable {C : Cx} {vs : Vs} {R : ab} (ok : aT C.M) (hR : R ≠ .fail) {ops : Array Oper}
include ok hR
theorem a0d (hc : fh C (C.env vs)) (hgl : ly C vs) {all : List Dr} {rb n : Nat} {g : G} (hg : bN C g) {x : Dr} {rest dn : List Dr} {k : G → Sm} {sk : Row} {fr : Fr} {hp : Hp} (hx : x.i < n) (hcls : x.c = cls C.P x.o.op) (n4 : hp.rb = rb) (hnx : rb + n ≤ hp.nx) (hnd : (dn.map (·.i)).Nodup)
    (h : (denD C ops all g x rest dn k).run sk fr hp = R) : ∃ p : TP, ∃ g' sk' fr', (k g').run sk' fr' p.h' = R ∧ bN C g' ∧ p.x = x ∧ p.σ = sig C g sk fr ∧ p.h = hp ∧ p.σ' = sig C g' sk' fr' ∧ tU (C.env vs) ops C.nt rb n all dn p ∧ p.h'.rb = rb ∧ rb + n ≤ p.h'.nx := by
  have hN : bO (vi C.M x.i) hp (rb + x.i) := by rw [← n4]; exact wR ok (by omega)
  have low : ∀ {g' : G} {sk' : Row} {fr' : Fr} {v : AV} {hp' : Hp} {kd : Nat}, (k g').run sk' fr' hp' = R → cK (C.env vs) ops (ov C g sk fr) x.o (rb + x.i) hp v hp' kd → kd ≤ 2 → (kd = 1 → x.c = 1) → (kd = 2 → x.c = 2) → bN C g' → fk (sig C g sk fr) (sig C g' sk' fr') x.o.dst v → (∀ t, x.o.dst = some t → t < C.nt) →
      ∃ p : TP, ∃ g' sk' fr', (k g').run sk' fr' p.h' = R ∧ bN C g' ∧ p.x = x ∧ p.σ = sig C g sk fr ∧ p.h = hp ∧ p.σ' = sig C g' sk' fr' ∧ tU (C.env vs) ops C.nt rb n all dn p ∧ p.h'.rb = rb ∧ rb + n ≤ p.h'.nx := by
    intro g' sk' fr' v hp' kd h1 h2 hk hk1 hk2 h3 h4 h5
    obtain ⟨l1, l2, l3⟩ := h2.low hk
    refine ⟨⟨x, sig C g sk fr, sig C g' sk' fr', ov C g sk fr, hp, hp', hp, hp', [], [], v, kd⟩, g', sk', fr', h1, h3, rfl, rfl, rfl, rfl, ⟨h2, .inr ⟨hk, hk1, hk2⟩, h4, h5, fun t => rfl, fun y => fun hG => kj hgl hG y, wW hgl, n4, hnx, fun _ => ⟨rfl, rfl⟩, ?_, ?_, ?_⟩, l2.trans n4, Nat.le_trans hnx l1⟩ <;> exact fun e => absurd e (by show kd ≠ 3; omega)
  have zero : (∃ g' sk' fr' v hp', (k g').run sk' fr' hp' = R ∧ cK (C.env vs) ops (ov C g sk fr) x.o (rb + x.i) hp v hp' 0 ∧ bN C g' ∧ fk (sig C g sk fr) (sig C g' sk' fr') x.o.dst v ∧ ∀ t, x.o.dst = some t → t < C.nt) → ∃ p : TP, ∃ g' sk' fr', (k g').run sk' fr' p.h' = R ∧ bN C g' ∧ p.x = x ∧ p.σ = sig C g sk fr ∧ p.h = hp ∧ p.σ' = sig C g' sk' fr' ∧ tU (C.env vs) ops C.nt rb n all dn p ∧ p.h'.rb = rb ∧ rb + n ≤ p.h'.nx :=
    fun ⟨g', sk', fr', v, hp', h1, h2, h3, h4, h5⟩ => low h1 h2 (by omega) (fun e => by omega) (fun e => by omega) h3 h4 h5
  have run : j8 (ov C g sk fr) ops x.o true → (yw C g all x dn (dst C g x.o.dst).p (k (dst C g x.o.dst).g)).run sk fr hp = R → ∃ p : TP, ∃ g' sk' fr', (k g').run sk' fr' p.h' = R ∧ bN C g' ∧ p.x = x ∧ p.σ = sig C g sk fr ∧ p.h = hp ∧ p.σ' = sig C g' sk' fr' ∧ tU (C.env vs) ops C.nt rb n all dn p ∧ p.h'.rb = rb ∧ rb + n ≤ p.h'.nx := by
    intro hw h
    unfold yw at h
    cases hcc : Nat.ble x.c 2 with
    | true =>
      rw [hcc] at h
      rw [aK] at hcc
      obtain ⟨v, hp', kd, h1, h2, h3, h4⟩ := jX (vs := vs) ok hR hN x.o (fun f aas ts hop hh => hc x.o f aas ts hR hop hh) h
      obtain ⟨g', sk', fr', h5, h6, h7, h8⟩ := jf hR hg h1
      rw [← hcls] at h3
      have hkd : kd ≤ 2 ∧ (kd = 1 → x.c = 1) ∧ (kd = 2 → x.c = 2) := by rcases h3 with q | q | q | q <;> omega
      exact low h5 (.run hw h4 h2) hkd.1 hkd.2.1 hkd.2.2 h6 h7 h8
    | false =>
      rw [hcc] at h
      have hc3 : 3 ≤ x.c := by
        have : ¬ x.c ≤ 2 := fun e => by rw [cZ e] at hcc; cases hcc
        omega
      obtain ⟨hsp, h1⟩ := aQ hR h
      have hAnd : (cA x dn).Nodup := hnd.sublist (iO x dn)
      obtain ⟨pl, hA, v, h2, h4, r1, r2, r3, r4⟩ := zG ok hR hAnd h1
      have hNA : bO (vi C.M x.i) hA (rb + x.i) := by
        have e : hA.rb + x.i = rb + x.i := by rw [r3.arb, n4]
        have hlt : hA.rb + x.i < hA.nx := by rw [r3.arb, r3.anx, n4]; omega
        rw [← e]; exact fun {R} => wR ok hlt
      have hR2 : ab.val v h2 ≠ .fail := by simp
      obtain ⟨v', hp', kd, q1, q2, q3, q4⟩ := jX (vs := vs) ok hR2 hNA x.o (fun f aas ts hop hh => hc x.o f aas ts hR2 hop hh) r1
      have q1' : ab.val v' hp' = ab.val v h2 := q1
      cases q1'
      obtain ⟨g', sk', fr', h5, h6, h7, h8⟩ := jf hR hg r2
      refine ⟨⟨x, sig C g sk fr, sig C g' sk' fr', ov C g sk fr, hp, h4, hA, h2, cA x dn, pl, v, 3⟩, g', sk', fr', h5, h6, rfl, rfl, rfl, rfl, ⟨.run hw q4 (q2.up q4), .inl ⟨rfl, hc3⟩, h7, h8, fun t => rfl, fun y => fun hG => kj hgl hG y, wW hgl, n4, hnx, fun e => absurd e (by show ¬ 3 ≤ 2; omega), fun _ => r3, fun _ => rfl, fun _ y hy => ⟨eQ hsp y hy, r4 y hy⟩⟩, r3.rb.trans n4, Nat.le_trans hnx r3.nxle⟩
  unfold denD at h
  split at h
  · rename_i a ha
    obtain ⟨hb, h'⟩ := aQ hR h
    rw [aK] at hb
    obtain ⟨y, hop, hgd, hdst, hgi, hsl⟩ := nz hg ha sk fr
    have hd : ∀ c, x.o.op ≠ .defer c := by rcases hop with e | e <;> rw [e] <;> simp
    refine zero ⟨_, sk, fr, _, hp, h', .run (fK hgd) hd (.pure rfl fun {w F μ ρ} hO => ⟨.value (ρ y), _, ?_, .inl rfl, hO y (by rcases hop with e | e <;> rw [e] <;> simp [Op.operands])⟩), hgi, hsl, fun t e => by rw [hdst] at e; cases e; exact hb⟩
    rcases hop with e | e <;> simp only [execOp, e, Sem.run_pure]
  · have e' : (match x.o.guard with
        | none => yw C g all x dn (dst C g x.o.dst).p (k (dst C g x.o.dst).g)
        | some (j, want) => guarded C g (dst C g x.o.dst).p (k (dst C g x.o.dst).g) (yw C g all x dn (dst C g x.o.dst).p (k (dst C g x.o.dst).g)) ((ops[j]?).bind (·.dst)) want : Sm).run sk fr hp = R := h
    split at e'
    · rename_i hgd
      exact run (fK hgd) e'
    · rename_i j want hgd
      rcases kJ hR hgd e' with ⟨hw, h1⟩ | ⟨hw, h1⟩
      · exact run hw h1
      · obtain ⟨g', sk', fr', h5, h6, h7, h8⟩ := jf hR hg h1
        exact zero ⟨g', sk', fr', _, hp, h5, .skip hw rfl rfl, h6, h7, h8⟩
theorem nM (hc : fh C (C.env vs)) (hgl : ly C vs) {all : List Dr} {rb n : Nat} {k : G → Sm} : ∀ (l : List Dr) {g : G} {dn : List Dr} {sk : Row} {fr : Fr} {hp : Hp}, bN C g → (∀ x ∈ l, x.i < n ∧ x.c = cls C.P x.o.op) → hp.rb = rb → rb + n ≤ hp.nx → (l.map (·.i) ++ dn.map (·.i)).Nodup →
    (qO C ops all l g k dn).run sk fr hp = R → ∃ ts g' sk' fr' hp', (k g').run sk' fr' hp' = R ∧ bN C g' ∧ Trace (C.env vs) ops C.nt rb n all (sig C g sk fr) hp l dn ts (sig C g' sk' fr') hp'
  | [], g, dn, sk, fr, hp, hg, _, _, _, _, h => ⟨[], g, sk, fr, hp, h, hg, .nil _ _ _⟩
  | x :: l, g, dn, sk, fr, hp, hg, hx, n4, hnx, hnd, h => by
    have h' : (denD C ops all g x l dn fun g => qO C ops all l g k (x :: dn)).run sk fr hp = R := h
    have hnd2 : (dn.map (·.i)).Nodup := (List.nodup_append.1 hnd).2.1
    obtain ⟨p, g1, sk1, fr1, h1, hg1, px, pσ, ph, pσ', pok, prb, pnx⟩ := a0d (vs := vs) ok hR hc hgl hg (hx x (List.mem_cons_self ..)).1 (hx x (List.mem_cons_self ..)).2 n4 hnx hnd2 h'
    have hnd3 : (l.map (·.i) ++ (x :: dn).map (·.i)).Nodup := by
      rw [List.map_cons, List.cons_append, List.nodup_cons] at hnd
      rw [List.map_cons]
      rw [List.nodup_append] at hnd ⊢
      obtain ⟨q1, q2, q3, q4⟩ := hnd
      rw [List.mem_append, not_or] at q1
      refine ⟨q2, List.nodup_cons.2 ⟨q1.2, q3⟩, fun a ha b hb e => ?_⟩
      rcases List.mem_cons.1 hb with rfl | hb
      · exact q1.1 (e ▸ ha)
      · exact q4 a ha b hb e
    obtain ⟨ts, g', sk', fr', hp', h2, hg', ht⟩ := nM hc hgl l hg1 (fun y hy => hx y (List.mem_cons_of_mem _ hy)) prb pnx hnd3 h1
    refine ⟨p :: ts, g', sk', fr', hp', h2, hg', ?_⟩
    rw [← pσ'] at ht
    rw [← px] at ht ⊢
    rw [← pσ, ← ph]
    exact .cons p pok ht
end
instance : Inhabited Dr := ⟨⟨0, default, 0, 0, []⟩⟩
instance : Inhabited TP := ⟨⟨default, fun _ => .uu, fun _ => .uu, fun _ => .uu, .empty, .empty, .empty, .empty, [], [], .uu, 0⟩⟩
structure fj (V : Env) (ops : Array Oper) (nt rb n : Nat) (all : List Dr) (T : Nat → TP) (H : Nat → Hp) (S : Nat → Nat → AV) : Prop where
  tp : ∀ k, k < n → ∃ dn, tU V ops nt rb n all dn (T k) ∧ ∀ y, y ∈ dn ↔ ∃ q, q < k ∧ (T q).x = y
  hk : ∀ k, k < n → (T k).h = H k ∧ (T k).h' = H (k + 1)
  sk : ∀ k, k < n → (T k).σ = S k ∧ (T k).σ' = S (k + 1)
  op : ∀ k, k < n → ops[(T k).x.i]? = some (T k).x.o ∧ (T k).x.m = msk ops (T k).x.i ∧ (T k).x.r = dE ops (T k).x.o ∧ (T k).x.i < n
  mem : ∀ k, k < n → (T k).x ∈ all
  mem' : ∀ y, y ∈ all → ∃ k, k < n ∧ (T k).x = y
  inj : ∀ k j, k < n → j < n → (T k).x.i = (T j).x.i → k = j
  surj : ∀ i, i < n → ∃ k, k < n ∧ (T k).x.i = i
  top : ∀ k j, k < n → j < n → bit (T k).x.m (T j).x.i = true → j < k
  pair : ∀ k j, k < j → j < n → kB (T k).x (T j).x = true ∧ kB (T j).x (T k).x = true ∧ pz (T k).x (T j).x = true
theorem Trace.spec {V : Env} {ops : Array Oper} {nt rb n : Nat} {all : List Dr} {σ : Nat → AV} {h : Hp} {l dn : List Dr} {ts : List TP} {σe : Nat → AV} {he : Hp} (t : Trace V ops nt rb n all σ h l dn ts σe he) :
    ts.map (·.x) = l ∧ (∀ (k : Nat) (p : TP), ts[k]? = some p → ∃ dnk, tU V ops nt rb n all dnk p ∧ ∀ y, y ∈ dnk ↔ y ∈ dn ∨ ∃ (q : Nat) (pq : TP), q < k ∧ ts[q]? = some pq ∧ pq.x = y) ∧
    (((ts[0]?).map (·.h)).getD he = h ∧ ∀ (k : Nat) (p : TP), ts[k]? = some p → ((ts[k + 1]?).map (·.h)).getD he = p.h') ∧
    (((ts[0]?).map (·.σ)).getD σe = σ ∧ ∀ (k : Nat) (p : TP), ts[k]? = some p → ((ts[k + 1]?).map (·.σ)).getD σe = p.σ') := by
  induction t with
  | nil => exact ⟨rfl, fun k p h => (by cases h), ⟨rfl, fun k p h => (by cases h)⟩, ⟨rfl, fun k p h => (by cases h)⟩⟩
  | cons p ok t ih =>
    obtain ⟨h1, h2, ⟨h3, h4⟩, ⟨h5, h6⟩⟩ := ih
    refine ⟨by rw [List.map_cons, h1], fun k q hq => ?_, ⟨rfl, fun k q hq => ?_⟩, ⟨rfl, fun k q hq => ?_⟩⟩
    · cases k with
      | zero =>
        cases hq
        exact ⟨_, ok, fun y => ⟨.inl, fun h => h.elim id fun ⟨q, _, hq, _⟩ => absurd hq (Nat.not_lt_zero _)⟩⟩
      | succ k =>
        obtain ⟨dnk, q1, q2⟩ := h2 k q hq
        refine ⟨dnk, q1, fun y => (q2 y).trans ⟨fun h => ?_, fun h => ?_⟩⟩
        · rcases h with h | ⟨j, pj, hj, hpj, e⟩
          · rcases List.mem_cons.1 h with rfl | h
            · exact .inr ⟨0, p, Nat.succ_pos _, rfl, rfl⟩
            · exact .inl h
          · exact .inr ⟨j + 1, pj, Nat.succ_lt_succ hj, hpj, e⟩
        · rcases h with h | ⟨j, pj, hj, hpj, e⟩
          · exact .inl (List.mem_cons_of_mem _ h)
          · cases j with
            | zero => cases hpj; exact .inl (e ▸ List.mem_cons_self ..)
            | succ j => exact .inr ⟨j, pj, Nat.lt_of_succ_lt_succ hj, hpj, e⟩
    · cases k with
      | zero => cases hq; exact h3
      | succ k => exact h4 k q hq
    · cases k with
      | zero => cases hq; exact h5
      | succ k => exact h6 k q hq
theorem a4b {P : Program} {ops : Array Oper} {ms : List Nat} {l : List Oper} {i0 j : Nat} (h : j < l.length) : ∃ x ∈ pM P ops l ms i0, x.i = i0 + j := by
  have hm : i0 + j ∈ (pM P ops l ms i0).map (·.i) := by rw [je, List.mem_range']; exact ⟨j, h, by omega⟩
  obtain ⟨x, h1, h2⟩ := List.mem_map.1 hm
  exact ⟨x, h1, h2⟩
theorem a4a {P : Program} {ops : Array Oper} {ms : List Nat} (l : List Oper) (i0 : Nat) : (pM P ops l ms i0).length = l.length := by
  have := congrArg List.length (je (P := P) (ops := ops) (ms := ms) l i0)
  rw [List.length_map, List.length_range'] at this
  exact this
theorem Trace.plan {V : Env} {ops : Array Oper} {nt rb : Nat} {σ : Nat → AV} {h : Hp} {l : List Dr} {ts : List TP} {σe : Nat → AV} {he : Hp} (hl : l = order ops.size 0 (pM V.P ops ops.toList (jB (cC ops.toList [] 0) []) 0)) (hd : jZ l ops.size = true)
    (t : Trace V ops nt rb ops.size l σ h l [] ts σe he) : ∃ T H S, fj V ops nt rb ops.size l T H S ∧ H 0 = h ∧ H ops.size = he ∧ S 0 = σ ∧ S ops.size = σe := by
  obtain ⟨h1, h2, ⟨h3, h4⟩, ⟨h5, h6⟩⟩ := t.spec
  have hlen0 : ∀ l : List Dr, (List.rec (motive := fun _ => Nat) 0 (fun _ _ ih => Nat.succ ih) l : Nat) = l.length := fun l => by
    induction l with
    | nil => rfl
    | cons x l ih => exact congrArg Nat.succ ih
  unfold jZ at hd
  rw [aB, hlen0, an] at hd
  obtain ⟨hlen, hpairs⟩ := hd
  have hts : ts.length = ops.size := by rw [← hlen, ← h1, List.length_map]
  have hget : ∀ k, k < ops.size → ts[k]? = some (ts.getD k default) := fun k hk => by
    rw [List.getD_eq_getElem?_getD, List.getElem?_eq_getElem (by omega)]; rfl
  have hx : ∀ k, k < ops.size → l[k]? = some (ts.getD k default).x := fun k hk => by rw [← h1, List.getElem?_map, hget k hk]; rfl
  have hids : ((pM V.P ops ops.toList (jB (cC ops.toList [] 0) []) 0).map (·.i)).Nodup := by rw [je]; exact List.nodup_range'
  have hord := fG ops.size 0 (pM V.P ops ops.toList (jB (cC ops.toList [] 0) []) 0) hids
  rw [← hl] at hord
  have hpair := oe hpairs
  refine ⟨fun k => ts.getD k default, fun k => ((ts[k]?).map (·.h)).getD he, fun k => ((ts[k]?).map (·.σ)).getD σe, ⟨fun k hk => ?_, fun k hk => ?_, fun k hk => ?_, fun k hk => ?_, fun k hk => ?_, fun y hy => ?_, fun k j hk hj e => ?_, fun i hi => ?_, fun k j hk hj hb => ?_, fun k j hkj hj => ?_⟩, h3, ?_, h5, ?_⟩
  · obtain ⟨dnk, q1, q2⟩ := h2 k _ (hget k hk)
    refine ⟨dnk, q1, fun y => (q2 y).trans ⟨fun h => ?_, fun ⟨q, hq, e⟩ => .inr ⟨q, _, hq, hget q (by omega), e⟩⟩⟩
    rcases h with h | ⟨q, pq, hq, hpq, e⟩
    · cases h
    · rw [hget q (by omega)] at hpq; cases hpq
      exact ⟨q, hq, e⟩
  · refine ⟨?_, (h4 k _ (hget k hk)).symm⟩
    show (ts.getD k default).h = ((ts[k]?).map (·.h)).getD he
    rw [hget k hk]; rfl
  · refine ⟨?_, (h6 k _ (hget k hk)).symm⟩
    show (ts.getD k default).σ = ((ts[k]?).map (·.σ)).getD σe
    rw [hget k hk]; rfl
  · have hm := (hord k _ (hx k hk)).1
    obtain ⟨j, o, e1, e2⟩ := oT hm
    show ops[(ts.getD k default).x.i]? = some (ts.getD k default).x.o ∧ (ts.getD k default).x.m = msk ops (ts.getD k default).x.i ∧ (ts.getD k default).x.r = dE ops (ts.getD k default).x.o ∧ (ts.getD k default).x.i < ops.size
    rw [e2]
    simp only [Nat.zero_add]
    rw [Array.getElem?_toList] at e1
    exact ⟨e1, by first | trivial | rfl, by first | trivial | rfl, (Array.getElem?_eq_some_iff.1 e1).1⟩
  · exact List.mem_of_getElem? (hx k hk)
  · obtain ⟨k, hk, e⟩ := List.getElem_of_mem hy
    refine ⟨k, by omega, ?_⟩
    have := hx k (by omega)
    rw [List.getElem?_eq_getElem hk, e] at this
    exact (Option.some.inj this).symm
  · exact (hord j _ (hx j hj)).2.2 k _ (hx k hk) e
  · have hiop : i < ops.toList.length := by simpa using hi
    obtain ⟨y, hy, hyi⟩ := a4b (P := V.P) (ops := ops) (ms := jB (cC ops.toList [] 0) []) (i0 := 0) hiop
    obtain ⟨x, hx1, hx2⟩ := o9 ops.size 0 _ (by rw [a4a]; simp) (by rw [← hl]; exact hlen) y hy
    rw [← hl] at hx1
    obtain ⟨k, hk, e⟩ := List.getElem_of_mem hx1
    refine ⟨k, by omega, ?_⟩
    have := hx k (by omega)
    rw [List.getElem?_eq_getElem hk, e] at this
    rw [← Option.some.inj this, hx2, hyi, Nat.zero_add]
  · rcases (hord k _ (hx k hk)).2.1 _ hb with h | ⟨q, y, hq, hy, e⟩
    · rw [cY] at h; simp at h
    · have := (hord j _ (hx j hj)).2.2 q y hy e
      omega
  · have := hpair k j _ _ hkj (hx k (by omega)) (hx j hj)
    simp only [aB] at this
    exact this
  · simp only [List.getElem?_eq_none (Nat.le_of_eq hts)]; rfl
  · simp only [List.getElem?_eq_none (Nat.le_of_eq hts)]; rfl
section
variable {V : Env} {ops : Array Oper} {nt rb n : Nat} {all : List Dr} {T : Nat → TP} {H : Nat → Hp} {S : Nat → Nat → AV} (p : fj V ops nt rb n all T H S)
include p
theorem fj.kd {k : Nat} (hk : k < n) : ((T k).kd = 3 ∧ 3 ≤ (T k).x.c) ∨ ((T k).kd ≤ 2 ∧ ((T k).kd = 1 → (T k).x.c = 1) ∧ ((T k).kd = 2 → (T k).x.c = 2)) := let ⟨_, h, _⟩ := p.tp k hk; h.kdc
theorem fj.slot {k : Nat} (hk : k < n) : fk (S k) (S (k + 1)) (T k).x.o.dst (T k).v := by
  obtain ⟨_, h, _⟩ := p.tp k hk
  have := h.slot
  rw [(p.sk k hk).1, (p.sk k hk).2] at this; exact this
theorem fj.low {k : Nat} (hk : k < n) (hkd : (T k).kd ≤ 2) : (T k).hA = H k ∧ (T k).hB = H (k + 1) ∧ cK V ops (T k).O (T k).x.o (rb + (T k).x.i) (H k) (T k).v (H (k + 1)) (T k).kd := by
  obtain ⟨_, h, _⟩ := p.tp k hk
  obtain ⟨e1, e2⟩ := h.low hkd
  rw [(p.hk k hk).1] at e1
  rw [(p.hk k hk).2] at e2
  have := h.step
  rw [e1, ← e2] at this
  exact ⟨e1, e2.symm, this⟩
theorem fj.still {k : Nat} (hk : k < n) (hkd : (T k).kd ≤ 1) : H (k + 1) = H k := by
  obtain ⟨_, _, h⟩ := p.low hk (by omega)
  revert hkd
  generalize (T k).kd = kd at h
  intro hkd
  cases h with
  | skip _ _ hh => exact hh
  | run _ _ kn =>
    cases kn with
    | pure h => exact h
    | read _ h => exact h
    | make => omega
    | other => omega
theorem fj.make {k : Nat} (hk : k < n) (hkd : (T k).kd = 2) : ∃ B, br (H k) (rb + (T k).x.i) B (H (k + 1)) := by
  obtain ⟨_, _, h⟩ := p.low hk (by omega)
  rw [hkd] at h
  cases h with
  | run _ _ kn =>
    cases kn with
    | make B hs hn _ => exact ⟨B, hs⟩
theorem fj.wrap {k : Nat} (hk : k < n) (hkd : (T k).kd = 3) : oG (T k).A (T k).pl (H k) (T k).hA (T k).hB (H (k + 1)) := by
  obtain ⟨_, h, _⟩ := p.tp k hk
  have := h.wrap hkd
  rw [(p.hk k hk).1, (p.hk k hk).2] at this; exact this
theorem fj.lr {k : Nat} (hk : k < n) : (H k).rb = rb ∧ rb + n ≤ (H k).nx := by
  obtain ⟨_, h, _⟩ := p.tp k hk
  have h1 := h.n4
  have h2 := h.nx
  rw [(p.hk k hk).1] at h1 h2
  exact ⟨h1, h2⟩
theorem fj.step {k : Nat} (hk : k < n) : (H k).nx ≤ (H (k + 1)).nx ∧ (H (k + 1)).pr = (H k).pr := by
  by_cases e : (T k).kd = 3
  · have hw := p.wrap hk e
    exact ⟨hw.nxle, hw.pr⟩
  · have hkd : (T k).kd ≤ 2 := by rcases p.kd hk with h | h <;> omega
    obtain ⟨_, _, h⟩ := p.low hk hkd
    obtain ⟨q1, _, q3⟩ := h.low hkd
    exact ⟨q1, q3⟩
theorem fj.mono {j : Nat} : ∀ {k : Nat}, j ≤ k → k ≤ n → (H j).nx ≤ (H k).nx ∧ (H k).pr = (H j).pr := by
  intro k hjk
  induction hjk with
  | refl => exact fun _ => ⟨Nat.le_refl _, rfl⟩
  | @step m _ ih =>
    intro hk
    obtain ⟨h1, h2⟩ := ih (by omega)
    obtain ⟨h3, h4⟩ := p.step (k := m) (by omega)
    exact ⟨Nat.le_trans h1 h3, h4.trans h2⟩
abbrev bd (rb : Nat) (T : Nat → TP) (k : Nat) : Nat := rb + (T k).x.i
theorem fj.dU {k j : Nat} (hk : k < n) (hj : j < n) (h : bd rb T k = bd rb T j) : k = j := p.inj k j hk hj (by unfold bd at h; omega)
theorem fj.stays {j b : Nat} : ∀ {k : Nat}, j ≤ k → k ≤ n → (∀ q, j ≤ q → q < k → (T q).kd ≠ 3 ∧ ((T q).kd = 2 → bd rb T q ≠ b)) → (H k).at b = (H j).at b := by
  intro k hjk
  induction hjk with
  | refl => exact fun _ _ => rfl
  | @step m hm ih =>
    intro hk hno
    rw [← ih (by omega) fun q h1 h2 => hno q h1 (by omega)]
    obtain ⟨h1, h2⟩ := hno m hm (Nat.lt_succ_self _)
    have hmn : m < n := by omega
    by_cases e : (T m).kd ≤ 1
    · rw [p.still hmn e]
    · have e2 : (T m).kd = 2 := by rcases p.kd hmn with h | h <;> omega
      obtain ⟨B, hs⟩ := p.make hmn e2
      exact hs.ne (Ne.symm (h2 e2))
def vS (B B' : aX) : Prop := B = B' ∨ ∃ rw rw' fl z s t, B = .row rw fl z s t ∧ B' = .row rw' fl z s t
omit p in
theorem vS.trans {B B' B'' : aX} (h : vS B B') (h' : vS B' B'') : vS B B'' := by
  rcases h with rfl | ⟨rw, rw', fl, z, s, t, e1, e2⟩
  · exact h'
  · rcases h' with rfl | ⟨rwa, rwa', fla, za, sa, ta, o1, o2⟩
    · exact .inr ⟨rw, rw', fl, z, s, t, e1, e2⟩
    · rw [e2] at o1; cases o1
      exact .inr ⟨rw, rwa', fl, z, s, t, e1, o2⟩
omit p in
theorem Kept.sim {B B' X : aX} (h : Kept B B' X) : vS B X := by
  rcases h with ⟨rw, rw', fl, fl', z, z', s, s', t, t', e1, _, e3⟩ | ⟨n, n', t, t', e1, _, e3⟩
  · exact .inr ⟨rw, rw', fl, z, s, t, e1, e3⟩
  · exact .inl (e1.trans e3.symm)
omit p in
theorem Kept.self {B X : aX} (h : Kept B B X) : X = B := by
  rcases h with ⟨rw, rw', fl, fl', z, z', s, s', t, t', e1, e2, e3⟩ | ⟨n, n', t, t', e1, _, e3⟩
  · rw [e1] at e2; cases e2
    exact e3.trans e1.symm
  · exact e3.trans e1.symm
omit p in
theorem Kept.live {B B' X : aX} (h : Kept B B' X) : Live B ∧ Live B' := by
  rcases h with ⟨rw, rw', fl, fl', z, z', s, s', t, t', e1, e2, _⟩ | ⟨n, n', t, t', e1, e2, _⟩ <;> rw [e1, e2] <;> exact ⟨trivial, trivial⟩
omit p in
theorem vS.live {B B' : aX} (h : vS B B') (hl : Live B) : Live B' := by
  rcases h with rfl | ⟨rw, rw', fl, z, s, t, e1, e2⟩
  · exact hl
  · rw [e2]; trivial
omit p in
theorem j3.sim {w : World} {F : Nat → Prop} {μ : Mu} {b : Nat} {B B' : aX} (h : vS B B') (hr : j3 V w F μ b B) : j3 V w F μ b B' := by
  rcases h with rfl | ⟨rw, rw', fl, z, s, t, e1, e2⟩
  · exact hr
  · rw [e1] at hr; rw [e2]; exact hr
omit p in
theorem vS.symm {B B' : aX} (h : vS B B') : vS B' B := by
  rcases h with rfl | ⟨rw, rw', fl, z, s, t, e1, e2⟩
  · exact .inl rfl
  · exact .inr ⟨rw', rw, fl, z, s, t, e2, e1⟩
theorem fj.keeps {j b : Nat} : ∀ {k : Nat}, j ≤ k → k ≤ n → (∀ q, j ≤ q → q < k → ((T q).kd = 3 → b ∈ (T q).pl) ∧ ((T q).kd = 2 → bd rb T q ≠ b)) → vS ((H j).at b) ((H k).at b) := by
  intro k hjk
  induction hjk with
  | refl => exact fun _ _ => .inl rfl
  | @step m hm ih =>
    intro hk hno
    refine (ih (by omega) fun q h1 h2 => hno q h1 (by omega)).trans ?_
    obtain ⟨h1, h2⟩ := hno m hm (Nat.lt_succ_self _)
    have hmn : m < n := by omega
    rcases p.kd hmn with ⟨e, _⟩ | ⟨e, _⟩
    · have hw := p.wrap hmn e
      by_cases hA : ∃ i ∈ (T m).A, b = (H m).rb + i
      · exact (hw.pin b hA (h1 e)).sim
      · exact (hw.pout b hA (h1 e)).sim
    · refine .inl (p.stays (j := m) (k := m + 1) (by omega) (by omega) fun q q1 q2 => ?_).symm
      have : q = m := by omega
      subst this
      exact ⟨by omega, h2⟩
theorem fj.hidden {k : Nat} (hk : k < n) : ∀ {j : Nat}, k + 1 ≤ j → j ≤ n → (∀ q, k + 1 ≤ q → q < j → (T q).kd = 3 → (T k).x.i ∈ (T q).A) → (H j).at (bd rb T k) = (H (k + 1)).at (bd rb T k) := by
  intro j hkj
  induction hkj with
  | refl => exact fun _ _ => rfl
  | @step m hm ih =>
    intro hj hno
    rw [← ih (by omega) fun q h1 h2 => hno q h1 (by omega)]
    have hmn : m < n := by omega
    have hm : k + 1 ≤ m := hm
    rcases p.kd hmn with ⟨e, _⟩ | ⟨e, _⟩
    · have hw := p.wrap hmn e
      have hA : ∃ i ∈ (T m).A, bd rb T k = (H m).rb + i := ⟨_, hno m hm (Nat.lt_succ_self _) e, by rw [(p.lr hmn).1]⟩
      by_cases hp : bd rb T k ∈ (T m).pl
      · exact (hw.pin _ hA hp).self
      · exact hw.kin _ hA hp
    · refine p.stays (j := m) (k := m + 1) (by omega) (by omega) fun q q1 q2 => ?_
      have : q = m := by omega
      subst this
      exact ⟨by omega, fun _ e2 => absurd (p.dU hmn hk e2) (by omega)⟩
theorem fj.fg {j t : Nat} : ∀ {k : Nat}, j ≤ k → k ≤ n → (∀ q, j ≤ q → q < k → (T q).x.o.dst ≠ some t) → S k t = S j t ∨ S k t = .uu := by
  intro k hjk
  induction hjk with
  | refl => exact fun _ _ => .inl rfl
  | @step m hm ih =>
    intro hk hno
    have hmn : m < n := by omega
    rcases (p.slot hmn t).2 (hno m hm (Nat.lt_succ_self _)) with h | h
    · rw [h]; exact ih (by omega) fun q h1 h2 => hno q h1 (by omega)
    · exact .inr h
end
end Go.Proofs.YtdlohaedegmiaaaGreatDoor.Ev
