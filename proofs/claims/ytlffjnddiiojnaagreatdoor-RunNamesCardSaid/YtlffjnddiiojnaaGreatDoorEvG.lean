import Derived.Test.YtlffjnddiiojnaaGreatDoorEvF
import Derived.Test.YtlffjnddiiojnaaGreatDoorEvA
import Derived.Lib.Bytealg
import Derived.Lib.Index
import Derived.Lib.Atoi
import Derived.Below
import Derived.Lib.AtoiErrMem
import Derived.DefersIn
/- Functions of Go's library whose contracts are known. -/
namespace Go.Proofs.YtlffjnddiiojnaaGreatDoor.Ev
theorem bytesN_pack : ∀ (l : List UInt8), bytesN l.length (packL l) = nats l
  | [] => rfl
  | b :: l => by
    have hb : b.toNat < 256 := b.toNat_lt
    have e : packL (b :: l) = b.toNat + 256 * packL l := rfl
    show Nat.mod (packL (b :: l)) 256 :: bytesN l.length (Nat.div (packL (b :: l)) 256) = _
    have e1 : Nat.mod (packL (b :: l)) 256 = b.toNat := by rw [e]; show (b.toNat + 256 * packL l) % 256 = _; omega
    have e2 : Nat.div (packL (b :: l)) 256 = packL l := by rw [e]; show (b.toNat + 256 * packL l) / 256 = _; omega
    rw [e1, e2, bytesN_pack l]; rfl
theorem u8_beq (a b : UInt8) : Nat.beq a.toNat b.toNat = (a == b) := by
  rw [Bool.eq_iff_iff, beqN, beq_iff_eq]
  exact ⟨fun h => UInt8.toNat_inj.1 h, fun h => by rw [h]⟩
/-- Bits of an index, or of -1. -/
def bitsI (i : Int) : Nat := if i < 0 then none64 else i.toNat
theorem idxA_out (c : UInt8) : ∀ (l : List UInt8) (i : Nat), idxA c.toNat (nats l) i = if Lib.indexByte l c < 0 then none64 else i + (Lib.indexByte l c).toNat
  | [], i => rfl
  | b :: l, i => by
    have e : idxA c.toNat (nats (b :: l)) i = (Bool.rec (motive := fun _ => Nat) (idxA c.toNat (nats l) (Nat.succ i)) i (Nat.beq b.toNat c.toNat)) := rfl
    rw [e, bcase, u8_beq, idxA_out c l]
    have hg : ∀ l : List UInt8, -1 ≤ Lib.indexByte l c := fun l => by
      induction l with
      | nil => simp [Lib.indexByte]
      | cons b l ih => simp only [Lib.indexByte]; split; · omega
                       · split <;> omega
    have := hg l
    simp only [Lib.indexByte]
    by_cases h : (b == c) = true
    · simp [h]
    · simp only [h, if_false, Bool.false_eq_true]
      by_cases h2 : Lib.indexByte l c = -1
      · simp [h2]
      · have : (Lib.indexByte l c == -1) = false := by simpa using h2
        simp only [this, Bool.false_eq_true, if_false]
        have hn : ¬ Lib.indexByte l c < 0 := by omega
        have hn2 : ¬ Lib.indexByte l c + 1 < 0 := by omega
        rw [if_neg hn, if_neg hn2]
        show Nat.succ i + _ = _
        omega
theorem cntA_out (c : UInt8) : ∀ (l : List UInt8), cntA c.toNat (nats l) = Lib.countByte l c
  | [] => rfl
  | b :: l => by
    have e : cntA c.toNat (nats (b :: l)) = (Bool.rec (motive := fun _ => Nat) (cntA c.toNat (nats l)) (Nat.succ (cntA c.toNat (nats l))) (Nat.beq b.toNat c.toNat)) := rfl
    rw [e, bcase, u8_beq, cntA_out c l]
    simp only [Lib.countByte, List.count_cons]
    by_cases h : (b == c) = true <;> simp [h]
theorem preA_out : ∀ (m l : List UInt8), preA (nats m) (nats l) = m.isPrefixOf l
  | [], l => rfl
  | a :: m, [] => rfl
  | a :: m, b :: l => by
    have e : preA (nats (a :: m)) (nats (b :: l)) = (Bool.rec (motive := fun _ => Bool) false (preA (nats m) (nats l)) (Nat.beq a.toNat b.toNat)) := rfl
    rw [e, bcase, u8_beq, preA_out m l]
    simp only [List.isPrefixOf]
    by_cases h : (a == b) = true <;> simp [h]
theorem subA_out (m : List UInt8) : ∀ (l : List UInt8) (i : Nat), subA (nats m) (nats l) i = if Lib.index l m < 0 then none64 else i + (Lib.index l m).toNat
  | [], i => by
    have e : subA (nats m) (nats []) i = (Bool.rec (motive := fun _ => Nat) none64 i (preA (nats m) (nats []))) := rfl
    rw [e, bcase, preA_out]
    cases m <;> simp [Lib.index, List.isPrefixOf]
  | b :: l, i => by
    have e : subA (nats m) (nats (b :: l)) i = (Bool.rec (motive := fun _ => Nat) (subA (nats m) (nats l) (Nat.succ i)) i (preA (nats m) (nats (b :: l)))) := rfl
    rw [e, bcase, preA_out, subA_out m l]
    have := Lib.index_ge l m
    simp only [Lib.index]
    by_cases h : (m.isPrefixOf (b :: l)) = true
    · simp [h]
    · simp only [h, if_false, Bool.false_eq_true]
      by_cases h2 : Lib.index l m = -1
      · simp [h2]
      · have : (Lib.index l m == -1) = false := by simpa using h2
        simp only [this, Bool.false_eq_true, if_false]
        have hn : ¬ Lib.index l m < 0 := by omega
        have hn2 : ¬ Lib.index l m + 1 < 0 := by omega
        rw [if_neg hn, if_neg hn2]
        show Nat.succ i + _ = _
        omega
end Go.Proofs.YtlffjnddiiojnaaGreatDoor.Ev

/- Functions of Go's library whose contracts are known, as the evaluator has them. -/
namespace Go.Proofs.YtlffjnddiiojnaaGreatDoor.Ev
section
variable {V : Env} {f : FuncId}
theorem arg1_out {R : Res} (hR : R ≠ .fail) {l : Row} {k : AV → Row → Res} (h : arg1 l k = R) : ∃ v a r, l = .nd v a r ∧ k v r = R := by
  cases l with
  | lf => exact fail_out hR h
  | nd v a r => exact ⟨v, a, r, rfl, h⟩
theorem arg0_out {R : Res} (hR : R ≠ .fail) {l : Row} {k : Res} (h : arg0 l k = R) : l = .lf ∧ k = R := by
  cases l with
  | lf => exact ⟨rfl, h⟩
  | nd v a r => exact fail_out hR h
theorem args1 {w : World} {F : Nat → Prop} {μ : Mu} {v : AV} {a : Row} {args : Array Value} (h : Args w F μ (.nd v a .lf) args) : ∃ x, args = #[x] ∧ CRel w F μ v x := by
  obtain ⟨h1, h2⟩ := h
  obtain ⟨l⟩ := args
  cases l with
  | nil => cases h1
  | cons x r =>
    cases r with
    | nil => exact ⟨x, rfl, h2 0 x rfl⟩
    | cons y r => exact absurd h1 (by simp [len])
theorem args2 {w : World} {F : Nat → Prop} {μ : Mu} {v u : AV} {a b : Row} {args : Array Value} (h : Args w F μ (.nd v a (.nd u b .lf)) args) : ∃ x y, args = #[x, y] ∧ CRel w F μ v x ∧ CRel w F μ u y := by
  obtain ⟨h1, h2⟩ := h
  obtain ⟨l⟩ := args
  cases l with
  | nil => cases h1
  | cons x r =>
    cases r with
    | nil => cases h1
    | cons y r =>
      cases r with
      | nil => exact ⟨x, y, rfl, h2 0 x rfl, h2 1 y rfl⟩
      | cons z r => exact absurd h1 (by simp [len])
/-- A world that goes on. -/
theorem ExtC.grow {μ : Mu} {F : Nat → Prop} {hp : Hp} {w w' : World} (g : RowKit.Below w.heap.size w w') : ExtC μ F hp w μ F hp w' :=
  .of ⟨fun _ _ h => h, fun _ h => h, g.size, fun B hB _ => g.block B hB, fun _ h => .inr h, fun _ h => .inr h, fun _ h => .inl h, fun _ _ h => .inl h, Nat.le_refl _, rfl, rfl, ⟨by rw [g.os, g.tape], g.output⟩⟩ fun _ h => .inl h
/-- A function whose contract is known: what was there stays, what it hands back stands for the value. -/
theorem FnOk.known {G : FnS} (hcan : Can V.P f) (h : ∀ l hp R, G.f l hp = R → R ≠ .fail → ∃ v, R = .val v hp ∧ ∀ w F μ args, V.Glo w F → Args w F μ l args → Calls V.P f args w fun e w' => ∃ x, e = .returned x ∧ RowKit.Below w.heap.size w w' ∧ CRel w' F μ v x) : FnOk V f G := fun l hp R h1 hR => by
  obtain ⟨v, e, H⟩ := h l hp R h1 hR
  refine ⟨hcan, v, hp, e, fun w μ F args n hH ha => callsIn_wide.2 ((H w F μ args hH.glo ha).mono fun e w' ⟨x, e1, g, hx⟩ => ⟨x, e1, μ, F, hx, ?_, .grow g⟩)⟩
  exact hH.grow g.size g.block (fun _ h => h) (fun _ h => .inl h) fun B hB => Nat.lt_of_lt_of_le (hH.imm B hB) g.size
theorem str_inv {w : World} {F : Nat → Prop} {μ : Mu} {s n : Nat} {x : Value} (h : CRel w F μ (.str s n) x) : ∃ b : ByteArray, x = .string b ∧ n = b.size ∧ s = packL b.data.toList := by
  cases h; exact ⟨_, rfl, rfl, rfl⟩
theorem bytesN_str (b : ByteArray) : bytesN b.size (packL b.data.toList) = nats b.data.toList := by
  have e : b.size = b.data.toList.length := rfl
  rw [e, bytesN_pack]
theorem intK_val {i n : Nat} {k : AV → Res} : intK i n k = k (.int i n) := by cases n <;> rfl
theorem rel_bits {w : World} {F : Nat → Prop} {μ : Mu} {i : Int} (h1 : -1 ≤ i) (h2 : i < 9223372036854775808) : CRel w F μ (.int 3 (if i < 0 then none64 else 0 + i.toNat)) (.int .i64 i) := by
  by_cases h : i < 0
  · have : i = -1 := by omega
    subst this
    exact .int (k := 3) (n := none64) (by decide)
  · rw [if_neg h]
    have hn : i = (i.toNat : Int) := by omega
    have := CRel.int (w := w) (F := F) (μ := μ) (k := 3) (n := 0 + i.toNat) (by show 0 + i.toNat < 18446744073709551616; omega)
    have e : (kd 3).wrap ((0 + i.toNat : Nat) : Int) = i := by
      show IntKind.i64.wrap _ = i
      rw [Nat.zero_add, wrap_i64 _ (by omega), ← hn]
    rw [e] at this
    exact this
theorem indexByte_in (c : UInt8) : ∀ l : List UInt8, -1 ≤ Lib.indexByte l c ∧ Lib.indexByte l c ≤ l.length
  | [] => by simp [Lib.indexByte]
  | b :: l => by
    have := indexByte_in c l
    simp only [Lib.indexByte, List.length_cons]
    split
    · omega
    · split <;> omega
theorem index_in (m : List UInt8) : ∀ l : List UInt8, -1 ≤ Lib.index l m ∧ Lib.index l m ≤ l.length
  | [] => by simp only [Lib.index]; split <;> simp
  | b :: l => by
    have := index_in m l
    simp only [Lib.index, List.length_cons]
    split
    · omega
    · split <;> omega
theorem size_eq (b : ByteArray) : b.data.toList.length = b.size := rfl
theorem u8_cast {c : Nat} (h : c < 256) : ((c : Int).toNat.toUInt8).toNat = c := by
  show (UInt8.ofNat c).toNat = c
  rw [UInt8.toNat_ofNat']; omega
theorem idxF_ok (hcan : Can V.P f) (H : ∀ (s : ByteArray) (c : Int) (w : World), Calls V.P f #[.string s, .int .u8 c] w fun e w' => e = .returned (.int .i64 (Lib.indexByte s.data.toList c.toNat.toUInt8)) ∧ w' = w) : FnOk V f idxF := by
  refine FnOk.known hcan fun l hp R h hR => ?_
  obtain ⟨a, _, r, rfl, h1⟩ := arg1_out hR h
  obtain ⟨b, _, r, rfl, h2⟩ := arg1_out hR h1
  obtain ⟨rfl, h3⟩ := arg0_out hR h2
  obtain ⟨s, n, rfl, h4⟩ := onStr_out hR h3
  obtain ⟨i, c, rfl, h5⟩ := onInt_out hR h4
  obtain ⟨hi, h6⟩ := must_out hR h5
  obtain ⟨hn, h7⟩ := must_out hR h6
  rw [beqN] at hi
  rw [bleN] at hn
  subst hi
  rw [intK_val] at h7
  refine ⟨_, h7.symm, fun w F μ args _ ha => ?_⟩
  obtain ⟨x, y, rfl, hx, hy⟩ := args2 ha
  obtain ⟨b, rfl, rfl, rfl⟩ := str_inv hx
  obtain ⟨hc, rfl⟩ := inv_int hy
  have hw : T 4 c = c := T_nonneg 4 c hc (.inl (by decide))
  rw [hw]
  refine (H b c w).mono fun e w' ⟨e1, e2⟩ => ⟨_, e1, by rw [e2]; exact .refl _ _, ?_⟩
  have := idxA_out ((c : Int).toNat.toUInt8) b.data.toList 0
  rw [u8_cast hc] at this
  rw [bytesN_str, this]
  obtain ⟨h1, h2⟩ := indexByte_in ((c : Int).toNat.toUInt8) b.data.toList
  rw [size_eq] at h2
  exact rel_bits h1 (by omega)
theorem cntF_ok (hcan : Can V.P f) (H : ∀ (s : ByteArray) (c : UInt8) (w : World), Calls V.P f #[.string s, .string ⟨#[c]⟩] w fun e w' => e = .returned (.int .i64 (Lib.countByte s.data.toList c)) ∧ w' = w) : FnOk V f cntF := by
  refine FnOk.known hcan fun l hp R h hR => ?_
  obtain ⟨a, _, r, rfl, h1⟩ := arg1_out hR h
  obtain ⟨b, _, r, rfl, h2⟩ := arg1_out hR h1
  obtain ⟨rfl, h3⟩ := arg0_out hR h2
  obtain ⟨s, n, rfl, h4⟩ := onStr_out hR h3
  obtain ⟨t, m, rfl, h5⟩ := onStr_out hR h4
  obtain ⟨hm, h6⟩ := must_out hR h5
  obtain ⟨hn, h7⟩ := must_out hR h6
  rw [beqN] at hm
  rw [bleN] at hn
  rw [intK_val] at h7
  refine ⟨_, h7.symm, fun w F μ args _ ha => ?_⟩
  obtain ⟨x, y, rfl, hx, hy⟩ := args2 ha
  obtain ⟨b, rfl, rfl, rfl⟩ := str_inv hx
  obtain ⟨b2, rfl, hsz, rfl⟩ := str_inv hy
  obtain ⟨d⟩ := b2
  obtain ⟨l2⟩ := d
  have hl : l2.length = 1 := by rw [hm] at hsz; exact hsz.symm
  obtain ⟨c, rfl⟩ := List.length_eq_one_iff.1 hl
  have e0 : packL [c] = c.toNat := by show c.toNat + 256 * 0 = _; omega
  refine (H b c w).mono fun e w' ⟨e1, e2⟩ => ⟨_, e1, by rw [e2]; exact .refl _ _, ?_⟩
  show CRel w' F μ (.int 3 (cntA (packL [c]) _)) _
  rw [bytesN_str, e0, cntA_out c]
  have h2 : Lib.countByte b.data.toList c ≤ b.size := by rw [← size_eq]; exact List.count_le_length
  have := rel_bits (w := w') (F := F) (μ := μ) (i := (Lib.countByte b.data.toList c : Nat)) (by omega) (by omega)
  rw [if_neg (by omega)] at this
  simpa using this
theorem cntG_ok {G : FnS} (hG : FnOk V f G) (H : ∀ (s : ByteArray) (c : UInt8) (w : World), Calls V.P f #[.string s, .string ⟨#[c]⟩] w fun e w' => e = .returned (.int .i64 (Lib.countByte s.data.toList c)) ∧ w' = w) (hcan : Can V.P f) : FnOk V f (cntG G) := by
  intro l hp R h hR
  obtain ⟨a, _, r, rfl, h1⟩ := arg1_out hR h
  obtain ⟨b, _, r, rfl, h2⟩ := arg1_out hR h1
  obtain ⟨t, m, rfl, h3⟩ := onStr_out hR h2
  rw [when_eq] at h3
  split at h3
  · exact cntF_ok hcan H _ _ _ h3 hR
  · exact hG _ _ _ h3 hR
theorem subF_ok (hcan : Can V.P f) (H : ∀ (s m : ByteArray) (w : World) (F : Nat → Prop), V.Glo w F → s.size < 4294967281 → Calls V.P f #[.string s, .string m] w fun e w' => e = .returned (.int .i64 (Lib.index s.data.toList m.data.toList)) ∧ w' = w) : FnOk V f subF := by
  refine FnOk.known hcan fun l hp R h hR => ?_
  obtain ⟨a, _, r, rfl, h1⟩ := arg1_out hR h
  obtain ⟨b, _, r, rfl, h2⟩ := arg1_out hR h1
  obtain ⟨rfl, h3⟩ := arg0_out hR h2
  obtain ⟨s, n, rfl, h4⟩ := onStr_out hR h3
  obtain ⟨t, m, rfl, h5⟩ := onStr_out hR h4
  obtain ⟨hn, h6⟩ := must_out hR h5
  rw [bleN] at hn
  rw [intK_val] at h6
  refine ⟨_, h6.symm, fun w F μ args hG ha => ?_⟩
  obtain ⟨x, y, rfl, hx, hy⟩ := args2 ha
  obtain ⟨b, rfl, rfl, rfl⟩ := str_inv hx
  obtain ⟨b2, rfl, rfl, rfl⟩ := str_inv hy
  refine (H b b2 w F hG (by omega)).mono fun e w' ⟨e1, e2⟩ => ⟨_, e1, by rw [e2]; exact .refl _ _, ?_⟩
  rw [bytesN_str, bytesN_str, subA_out]
  obtain ⟨h1, h2⟩ := index_in b2.data.toList b.data.toList
  rw [size_eq] at h2
  exact rel_bits h1 (by omega)
/-! Numerals. -/
theorem digit_out (b : UInt8) : (Lib.digitVal b).isSome = (Nat.ble 48 b.toNat && Nat.ble b.toNat 57) := by
  unfold Lib.digitVal
  rw [Bool.eq_iff_iff]
  by_cases h : 48 ≤ b.toNat ∧ b.toNat ≤ 57
  · simp [h]
  · rw [if_neg h]; simp only [Option.isSome_none, Bool.false_eq_true, Bool.and_eq_true, bleN, false_iff]; exact h
theorem decA_out : ∀ (l : List UInt8) (acc : Nat), decA (nats l) acc = Lib.decFrom acc l
  | [], acc => rfl
  | b :: l, acc => by
    have e : decA (nats (b :: l)) acc = (Bool.rec (motive := fun _ => Option Nat) none (Bool.rec (motive := fun _ => Option Nat) none (decA (nats l) (Nat.add (Nat.mul acc 10) (Nat.sub b.toNat 48))) (Nat.ble b.toNat 57)) (Nat.ble 48 b.toNat)) := rfl
    rw [e, bcase, bcase, decA_out l]
    simp only [Lib.decFrom, Lib.digitVal, bleN]
    show (if 48 ≤ b.toNat then if b.toNat ≤ 57 then Lib.decFrom (acc * 10 + (b.toNat - 48)) l else none else none) = _
    by_cases h1 : 48 ≤ b.toNat
    · by_cases h2 : b.toNat ≤ 57
      · simp [h1, h2]
      · simp [h1, h2]
    · simp [h1]
theorem decL_out (l : List UInt8) : decL (nats l) = Lib.decNat l := by
  cases l with
  | nil => rfl
  | cons b l =>
    have e : decL (nats (b :: l)) = decA (nats (b :: l)) 0 := rfl
    rw [e, decA_out]; rfl
/-- The bits of a number. -/
def bits3 (i : Int) : Nat := (i % 18446744073709551616).toNat
theorem decFrom_lt : ∀ (l : List UInt8) (acc n : Nat), Lib.decFrom acc l = some n → n < (acc + 1) * 10 ^ l.length
  | [], acc, n, h => by simp only [Lib.decFrom, Option.some.injEq] at h; simp; omega
  | b :: l, acc, n, h => by
    simp only [Lib.decFrom, Lib.digitVal] at h
    split at h
    · rename_i d hd
      split at hd
      · have hd' : d = b.toNat - 48 := by simpa using hd.symm
        have := decFrom_lt l _ n h
        have h2 : acc * 10 + d + 1 ≤ (acc + 1) * 10 := by omega
        have h3 := Nat.mul_le_mul_right (10 ^ l.length) h2
        rw [List.length_cons, Nat.pow_succ]
        calc n < (acc * 10 + d + 1) * 10 ^ l.length := this
          _ ≤ (acc + 1) * 10 * 10 ^ l.length := h3
          _ = (acc + 1) * (10 ^ l.length * 10) := by rw [Nat.mul_assoc, Nat.mul_comm 10]
      · cases hd
    · cases h
theorem decNat_lt {l : List UInt8} {n : Nat} (hl : l.length ≤ 18) (h : Lib.decNat l = some n) : n < 9223372036854775808 := by
  unfold Lib.decNat at h
  split at h
  · cases h
  · have := decFrom_lt l 0 n h
    have h2 : 10 ^ l.length ≤ 10 ^ 18 := Nat.pow_le_pow_right (by omega) hl
    have h3 : (10 : Nat) ^ 18 < 9223372036854775808 := by decide
    omega
theorem atoA_out (l : List UInt8) (hl : l.length ≤ 18) : atoA (nats l) = (Lib.atoi l).map bits3 ∧ ∀ i, Lib.atoi l = some i → -9223372036854775808 < i ∧ i < 9223372036854775808 := by
  cases l with
  | nil => exact ⟨rfl, fun i h => by cases h⟩
  | cons b r =>
    have e : atoA (nats (b :: r)) = (Bool.rec (motive := fun _ => Option Nat) (Bool.rec (motive := fun _ => Option Nat) (decL (nats (b :: r))) (decL (nats r)) (Nat.beq b.toNat 43)) (Option.rec (motive := fun _ => Option Nat) none (fun m => some (Nat.mod (Nat.sub big m) big)) (decL (nats r))) (Nat.beq b.toNat 45)) := rfl
    have h45 : Nat.beq b.toNat 45 = (b == 45) := u8_beq b 45
    have h43 : Nat.beq b.toNat 43 = (b == 43) := u8_beq b 43
    have hr : r.length ≤ 18 := by simp at hl; omega
    rw [e, bcase, bcase, decL_out, decL_out, h45, h43]
    simp only [Lib.atoi]
    have pos : ∀ {l : List UInt8}, l.length ≤ 18 → Lib.decNat l = ((Lib.decNat l).map fun (m : Nat) => (m : Int)).map bits3 ∧ ∀ i, (Lib.decNat l).map (fun (m : Nat) => (m : Int)) = some i → -9223372036854775808 < i ∧ i < 9223372036854775808 := fun {l} hl => by
      cases h : Lib.decNat l with
      | none => exact ⟨rfl, fun i hi => by cases hi⟩
      | some n =>
        have := decNat_lt hl h
        refine ⟨?_, fun i hi => ?_⟩
        · simp only [Option.map_some, bits3]; congr 1; omega
        · simp only [Option.map_some, Option.some.injEq] at hi; omega
    by_cases h1 : (b == 45) = true
    · simp only [h1, if_true]
      cases h : Lib.decNat r with
      | none => exact ⟨rfl, fun i hi => by cases hi⟩
      | some n =>
        have := decNat_lt hr h
        refine ⟨?_, fun i hi => ?_⟩
        · simp only [Option.map_some, bits3]
          show some ((18446744073709551616 - n) % 18446744073709551616) = _
          congr 1; omega
        · simp only [Option.map_some, Option.some.injEq] at hi; omega
    · simp only [h1, Bool.false_eq_true, if_false]
      by_cases h2 : (b == 43) = true
      · simp only [h2, if_true]; exact pos hr
      · simp only [h2, Bool.false_eq_true, if_false]; exact pos hl
theorem rel_bits3 {w : World} {F : Nat → Prop} {μ : Mu} {i : Int} (h1 : -9223372036854775808 < i) (h2 : i < 9223372036854775808) : CRel w F μ (.int 3 (bits3 i)) (.int .i64 i) := by
  have := CRel.int (w := w) (F := F) (μ := μ) (k := 3) (n := bits3 i) (by show bits3 i < 18446744073709551616; unfold bits3; omega)
  have e : (kd 3).wrap ((bits3 i : Nat) : Int) = i := by
    show IntKind.i64.wrap _ = i
    rw [IntKind.wrap_i64]; unfold bits3; omega
  rw [e] at this
  exact this
theorem rel_pair {w : World} {F : Nat → Prop} {μ : Mu} {a b : AV} {x y : Value} (ha : CRel w F μ a x) (hb : CRel w F μ b y) : CRel w F μ (.tup (.nd a .lf (.nd b .lf .lf)) 2) (.tuple #[x, y]) :=
  .tup (fun i => if i = 0 then x else y) rfl (fun i hi => by
    have : i < 2 := hi
    rcases (by omega : i = 0 ∨ i = 1) with rfl | rfl <;> rfl) fun i hi => by
    have : i < 2 := hi
    rcases (by omega : i = 0 ∨ i = 1) with rfl | rfl
    · exact ha
    · exact hb
theorem atoF_ok {T : Nat} (hcan : Can V.P f) (Hy : ∀ (s : ByteArray) (n : Int) (w : World), s.size ≤ 18 → Lib.atoi s.data.toList = some n → Calls V.P f #[.string s] w fun e w' => e = .returned (.tuple #[.int .i64 n, .nilIface]) ∧ RowKit.Below w.heap.size w w')
    (Hn : ∀ (s : ByteArray) (w : World) (F : Nat → Prop), V.Glo w F → s.size ≤ 18 → Lib.atoi s.data.toList = none → Calls V.P f #[.string s] w fun e w' => (∃ v, e = .returned (.tuple #[.int .i64 0, .iface T v])) ∧ RowKit.Below w.heap.size w w') : FnOk V f (atoF T) := by
  refine FnOk.known hcan fun l hp R h hR => ?_
  obtain ⟨a, _, r, rfl, h1⟩ := arg1_out hR h
  obtain ⟨rfl, h2⟩ := arg0_out hR h1
  obtain ⟨s, n, rfl, h3⟩ := onStr_out hR h2
  obtain ⟨hn, h4⟩ := must_out hR h3
  rw [bleN] at hn
  have key : ∀ (o : Option Nat), (Option.rec (motive := fun _ => Res) (.val (.tup (.nd (.int 3 0) .lf (.nd (.x 12 .lf T 0 0) .lf .lf)) 2) hp) (fun m => intK 3 m fun v => .val (.tup (.nd v .lf (.nd (.x 11 .lf 0 0 0) .lf .lf)) 2) hp) o : Res) = .val (match o with | none => .tup (.nd (.int 3 0) .lf (.nd (.x 12 .lf T 0 0) .lf .lf)) 2 | some m => .tup (.nd (.int 3 m) .lf (.nd (.x 11 .lf 0 0 0) .lf .lf)) 2) hp := fun o => by
    cases o with
    | none => rfl
    | some m => exact intK_val
  rw [key] at h4
  refine ⟨_, h4.symm, fun w F μ args hG ha => ?_⟩
  obtain ⟨x, rfl, hx⟩ := args1 ha
  obtain ⟨b, rfl, rfl, rfl⟩ := str_inv hx
  rw [bytesN_str]
  obtain ⟨q1, q2⟩ := atoA_out b.data.toList hn
  rw [q1]
  cases ho : Lib.atoi b.data.toList with
  | none => exact (Hn b w F hG hn ho).mono fun e w' ⟨⟨v, e1⟩, e2⟩ => ⟨_, e1, e2, rel_pair (.int (k := 3) (n := 0) (by decide)) (.iface (.undef _))⟩
  | some i =>
    obtain ⟨p1, p2⟩ := q2 i ho
    exact (Hy b i w hn ho).mono fun e w' ⟨e1, e2⟩ => ⟨_, e1, e2, rel_pair (rel_bits3 p1 p2) .nili⟩
end
end Go.Proofs.YtlffjnddiiojnaaGreatDoor.Ev

/- A function that defers one call at its head: a closure that does nothing if the number that it looks at is 0. -/
namespace Go.Proofs.YtlffjnddiiojnaaGreatDoor.Ev
theorem splitD_out {c : Code} {q : Dfd} (h : splitD c = some q) : c = .seq (.region q.ia q.a false) (.seq (.region q.id #[q.o0, q.o1] false) q.rest) ∧ q.o0.op = .makeFunc (.func q.g) q.fs q.caps ∧ q.o0.dst = some q.t ∧ q.o0.guard = none ∧ q.o1.op = .defer ⟨.value (.tmp q.t'), q.as, q.ts⟩ ∧ q.o1.dst = none ∧ q.o1.guard = none := by
  unfold splitD at h
  split at h
  · rename_i ia a id ops rest
    obtain ⟨p, h1, h2⟩ := Option.bind_eq_some_iff.1 h
    obtain ⟨z, h3, h4⟩ := Option.map_eq_some_iff.1 h2
    subst h4
    have hops : ops = #[p.1, p.2] := by
      unfold twoOf at h1
      split at h1
      · rename_i x y e
        cases h1
        rw [← Array.toList_inj, e]
      · cases h1
    unfold opsD at h3
    split at h3
    · cases h3
      rename_i e1 e2 e3 e4 e5 e6
      exact ⟨by rw [hops], e1, e2, e3, e4, e5, e6⟩
    · cases h3
  · cases h
theorem noSlot_out {C : Cx} {g : G} {t : Nat} (h : noSlot C g t = true) : look C g t = .no ∧ t < C.nt := by
  unfold noSlot at h
  split at h
  · rename_i e; rw [bleN] at h; exact ⟨e, h⟩
  · cases h
end Go.Proofs.YtlffjnddiiojnaaGreatDoor.Ev

/- A function entered as a deferred call: its contract. -/
namespace Go.Proofs.YtlffjnddiiojnaaGreatDoor.Ev
variable {P : Program} {F : Fence} {n : Nat}
theorem leaves_stepsMD {fn : Func} {tmps : Array Value} {R : Ending → World → Prop} : ∀ (ds : List Deferred) (w : World) (fr : Frame)
    (cs : List Frame), fr.mode = .returning → fr.defers = ds → fr.tmps = tmps → P.funcs[fr.fn]? = some fn → F.fn fr.fn → F.room (cs.length + 1 + n) → (∀ d ∈ ds, ∃ r, d.target = .collected r) → LeavesInM F n P fn tmps R ds .returning w →
    ∃ v w' fr', R (.returned v) w' ∧ StepsIn (Machine.fenced P F) P (lone fr cs w) (lone fr' cs w') ∧ fr'.fn = fr.fn ∧ fr'.kind = fr.kind ∧ fr'.going P w' (.returned v) := by
  intro ds
  induction ds with
  | nil =>
    intro w fr cs hu hd ht hf hb hroom _ h
    obtain ⟨v, hr, hR⟩ := h
    exact ⟨v, w, fr, hR, .refl _, rfl, rfl, hu, hd, fn, hf, by rw [ht]; exact hr⟩
  | cons d ds ih =>
    intro w fr cs hu hd ht hf hb hroom hc h
    obtain ⟨hrun, h⟩ := h
    obtain ⟨r0, hr0⟩ := hc d (List.mem_cons_self ..)
    rcases h with ⟨r, w', htar, htake, hrest⟩ | ⟨hn, fv, cap, f, args, htar, hinv, hlead, hFf, hcall⟩
    · have h1 := step_collected (cs := cs) (hu ▸ hrun) hd htar htake
      have i1 : (lone fr cs w).fenced P F := fenced_out hb hroom (hu ▸ hrun) hd (fun g hg => by rw [htar] at hg; simp [Target.leads] at hg)
      obtain ⟨v, w'', fr', hR', hs', hfn', hk', hl'⟩ := ih w' { fr with defers := [] ++ ds } cs hu rfl ht hf hb hroom (fun d' hd' => hc d' (List.mem_cons_of_mem _ hd')) hrest
      exact ⟨v, w'', fr', hR', StepsIn.trans (.one i1 h1) hs', hfn', hk', hl'⟩
    · rw [hr0] at htar
      cases htar
/-- What the body must achieve. -/
def bodyPostMD (F : Fence) (n : Nat) (P : Program) (fn : Func) (R : Ending → World → Prop) : Exit → Act → World → Prop
  | .normal, a, w | .ret, a, w => (∀ d ∈ a.defers, ∃ r, d.target = .collected r) ∧ LeavesInM F n P fn a.tmps R a.defers .returning w
  | .outgrown, _, w => R .outgrown w
  | _, _, _ => False
theorem callsDIn_of_wp_marks {f : FuncId} {fn : Func} {c : Code} {args : Array Value} {u : FrameMode} {w : World} {R : Ending → World → Prop}
    (hf : P.funcs[f]? = some fn) (hb : fn.body = some c) (hF : F.fn f)
    (h : c.wpIn F n P (bodyPostMD F n P fn R) { tmps := args ++ Array.replicate (fn.ntmps - args.size) undef, defers := [] } w) (hro : F.round = none := by rfl) :
    CallsDIn F n P f args u w fun e u' w' => u' = u ∧ R e w' := by
  refine ⟨hF, fun c₀ cs hu hr => ?_⟩
  let b : Frame := { (default : Frame) with fn := f, kind := .deferred, roundOf := none }
  have henter : Frame.enter P f args .deferred =
      b.atR { tmps := args ++ Array.replicate (fn.ntmps - args.size) undef, defers := [] } [.code c] := by
    simp [Frame.enter, Frame.atR, hf, hb, b]
  have hc : ({ c₀ with mode := u } : Frame) = c₀ := by subst hu; rfl
  obtain ⟨e, a', w', hq, harr⟩ := h b [] (c₀ :: cs) hro.symm hF hr
  rw [← henter] at harr
  cases e with
  | normal =>
    obtain ⟨v, w'', fr', hR, hs, hfn, hk, hl⟩ := leaves_stepsMD a'.defers w' { b.atR a' [] with mode := .returning } (c₀ :: cs) rfl rfl rfl hf hF hr hq.1 hq.2
    exact ⟨.returned v, u, w'', fr', ⟨rfl, hR⟩, (by rw [hc]; exact StepsIn.trans (StepsIn.trans harr (.one (fenced_calm (fr := b.atR a' []) hF hr rfl) (stepR_end rfl))) hs), hk, hfn, hl⟩
  | ret =>
    obtain ⟨todo, hs₀⟩ := harr.1 rfl
    obtain ⟨v, w'', fr', hR, hs, hfn, hk, hl⟩ := leaves_stepsMD a'.defers w' { b.atR a' todo with mode := .returning } (c₀ :: cs) rfl rfl rfl hf hF hr hq.1 hq.2
    exact ⟨.returned v, u, w'', fr', ⟨rfl, hR⟩, (by rw [hc]; exact StepsIn.trans hs₀ hs), hk, hfn, hl⟩
  | panic chain => exact hq.elim
  | exit id => exact hq.elim
  | goto l => exact hq.elim
  | outgrown => exact ⟨.outgrown, u, w', b, ⟨rfl, hq⟩, harr.resolve_left (by simp [b]), rfl, rfl, trivial⟩
end Go.Proofs.YtlffjnddiiojnaaGreatDoor.Ev
namespace Go.Proofs.YtlffjnddiiojnaaGreatDoor.Ev
theorem marks_collected {s0 : Base} {h : Hp} {μ : Mu} {F : Nat → Prop} {w : World} : ∀ {ds : List Deferred}, MarksL s0 h μ F w ds → ∀ d ∈ ds, ∃ r, d.target = .collected r
  | [], _, _, hd => (by cases hd)
  | d :: ds, ⟨⟨r, h1, _⟩, hr⟩, d', hd => by
    rcases List.mem_cons.1 hd with rfl | hd
    · exact ⟨r, h1⟩
    · exact marks_collected hr d' hd
/-- As a deferred call. -/
def FnOkD (V : Env) (f : FuncId) (G : FnS) : Prop := ∀ (l : Row) (hp : Hp) (R : Res), G.f l hp = R → R ≠ .fail → Can V.P f ∧ ∃ v hp', R = .val v hp' ∧
  ∀ (w : World) (μ : Mu) (F : Nat → Prop) (args : Array Value) (n : Nat) (u : FrameMode), HRel V μ F hp w → Args w F μ l args → CallsDIn (Wf none) n V.P f args u w fun e u' w' => u' = u ∧ ∃ x, e = .returned x ∧ ∃ μ' F', CRel w' F' μ' v x ∧ HRel V μ' F' hp' w' ∧ ExtC μ F hp w μ' F' hp' w'
theorem fnS_okD' {C : Cx} {vs : Vs} (X : CxOk C vs) (hname : ∀ fn, C.P.funcs[C.self]? = some fn → (fn.name == "runtime.NumGoroutine") = false)
    (hrf : ∀ fn c n, C.P.funcs[C.self]? = some fn → fn.body = some c → (rfIn c).length ≤ 1 → ∀ x ∈ rfIn c, RunOk C vs none n (.rangeFunc x.1 x.2.1 x.2.2.1 x.2.2.2)) : FnOkD (C.env vs) C.self (fnS C) := by
  intro l hp R h hR
  unfold fnS at h
  split at h
  · exact fail_out hR h
  · rename_i fn hfn
    rw [getO_eq, Array.getElem?_toList] at hfn
    split at h
    · exact fail_out hR h
    · rename_i c hbody
      have h0 : (Bool.rec (motive := fun _ => FnS) noFn (Bool.rec (motive := fun _ => FnS) noFn ⟨fun l hp => must (Nat.beq (lenR l) (fn.params.size + fn.nfree)) (fillK 0 l (blank C.vars.length) fun fr =>
        Res.rec (motive := fun _ => Res) (fun fr hp => endF C fn.results.toList fr hp) (fun _ _ _ => .fail) (fun fr hp => endF C fn.results.toList fr hp) (fun _ _ => .fail) .fail (((den C c).run .e (fun _ => okS) [] rtS).run .lf fr hp))⟩ (headVars (fn.params.size + fn.nfree) C.vars)) (band (fewRF c) (Nat.ble C.nt fn.ntmps)) : FnS).f l hp = R := h
      cases hnt : band (fewRF c) (Nat.ble C.nt fn.ntmps) with
      | false => rw [hnt] at h0; exact fail_out hR h0
      | true =>
        rw [hnt] at h0
        rw [band_eq, bleN] at hnt
        obtain ⟨hfew, hnt⟩ := hnt
        cases hhv : headVars (fn.params.size + fn.nfree) C.vars with
        | false => rw [hhv] at h0; exact fail_out hR h0
        | true =>
          rw [hhv] at h0
          have hvars := headVars_out hhv
          obtain ⟨hlen, h1⟩ := must_out hR h0
          rw [beqN, lenR_eq] at hlen
          obtain ⟨fr0, h2, hfr⟩ := fillK_out hR h1
          generalize hRb : ((den C c).run .e (fun _ => okS) [] rtS).run .lf fr0 hp = Rb at h2
          have hRb0 : Rb ≠ .fail := fun e => by rw [e] at h2; exact hR h2.symm
          refine ⟨⟨fn, hfn, by rw [hbody]; rfl, hname fn hfn⟩, ?_⟩
          -- the end: with whatever frame and heap it is come to
          have hend : ∃ fr' hp', (Rb = .ok fr' hp' ∨ Rb = .ret fr' hp') ∧ endF C fn.results.toList fr' hp' = R := by
            cases Rb with
            | ok fr' hp' => exact ⟨fr', hp', .inl rfl, h2⟩
            | ret fr' hp' => exact ⟨fr', hp', .inr rfl, h2⟩
            | _ => exact fail_out hR h2
          obtain ⟨fr', hp', hor, h3⟩ := hend
          obtain ⟨v, h4, H⟩ := endF_out (vs := vs) X.ok hR h3
          refine ⟨v, hp', h4, fun w μ F args n u hH ha => ?_⟩
          refine callsDIn_of_wp_marks (c := c) (R := fun e w' => ∃ x, e = .returned x ∧ ∃ μ' F', CRel w' F' μ' v x ∧ HRel (C.env vs) μ' F' hp' w' ∧ ExtC μ F hp w μ' F' hp' w') hfn hbody trivial ?_ rfl
          have hSt : St C (C.env vs) (.of w.heap.size) .e .lf fr0 hp μ F { tmps := args ++ Array.replicate (fn.ntmps - args.size) undef, defers := [] } w := by
            refine ⟨GInv.e, fun t => ?_, hH, ?_, ⟨[], rfl, trivial⟩⟩
            · show CRel w F μ (sv 0 (look C .e t) .lf fr0) _
              have e : look C .e t = idxOf t C.vars 0 := rfl
              rw [e]
              rcases idxOf_f (l := C.vars) (t := t) (i := 0) with ⟨j, hj⟩ | hj
              · rw [hj]
                show CRel w F μ (fr0.at j) _
                rw [hfr j]
                by_cases hjl : 0 ≤ j ∧ j < 0 + len l
                · rw [if_pos hjl, Nat.sub_zero]
                  have ht : t = j := idxOf_inj hj (hvars j (by omega))
                  subst ht
                  have hlt : t < args.size := by have := ha.1; omega
                  have : (args ++ Array.replicate (fn.ntmps - args.size) undef).getD t undef = args[t] := by
                    rw [Array.getD_eq_getD_getElem?, Array.getElem?_append_left hlt, Array.getElem?_eq_getElem hlt]; rfl
                  rw [this]
                  exact ha.2 t _ (Array.getElem?_eq_getElem hlt)
                · rw [if_neg hjl, blank_at]; exact .undef _
              · rw [hj]; exact .undef _
            · show C.nt ≤ (args ++ Array.replicate (fn.ntmps - args.size) undef).size
              simp only [Array.size_append, Array.size_replicate]
              omega
          have fin : ∀ (fr2 : Fr) (hp2 : Hp) (a' : Act) (w' : World), (Rb = .ok fr2 hp2 ∨ Rb = .ret fr2 hp2) → At C vs (.of w.heap.size) μ F hp w .e .lf fr2 hp2 a' w' →
              (∀ d ∈ a'.defers, ∃ r, d.target = .collected r) ∧ LeavesInM (Wf none) n C.P fn a'.tmps (fun e w' => ∃ x, e = .returned x ∧ ∃ μ' F', CRel w' F' μ' v x ∧ HRel (C.env vs) μ' F' hp' w' ∧ ExtC μ F hp w μ' F' hp' w') a'.defers .returning w' := fun fr2 hp2 a' w' hor2 ⟨μ', F', S', E'⟩ => by
            have hsame : fr2 = fr' ∧ hp2 = hp' := by
              rcases hor with e | e <;> rcases hor2 with e2 | e2 <;> rw [e] at e2 <;> cases e2 <;> exact ⟨rfl, rfl⟩
            obtain ⟨rfl, rfl⟩ := hsame
            obtain ⟨ms, hms, hmk⟩ := S'.df
            refine ⟨fun d hd => marks_collected hmk d ((List.mem_append.1 (hms ▸ hd)).elim id fun h => absurd (show d ∈ ([] : List Deferred) from h) (by simp)), ?_⟩
            rw [hms]
            refine leaves_marks (V := C.env vs) (s0 := .of w.heap.size) (μ := μ') (F := F') (hp := hp2) (μ0 := μ) (F0 := F) (h0 := hp) (w0 := w) (wI := w') (fun w2 H2 E2 hI => ?_) (Nat.le_refl _) ms w' S'.h E' (fun _ _ => rfl) hmk
            obtain ⟨x, q1, q2⟩ := H (fn := fn) (tmps := a'.tmps) rfl H2 fun t => (S'.sl t).mono hI (fun _ h => h) (fun _ _ h => h)
            exact ⟨x, q1, x, rfl, μ', F', q2, H2, E2⟩
          refine (runOk X c (hrf fn c n hfn hbody (fewRF_out hfew))).1 (s0 := .of w.heap.size) hRb0 hRb ⟨μ, F, hSt, ExtC.refl _ _ _ _⟩ (fun g2 sk2 fr2 hp2 a' w' e S' => fin fr2 hp2 a' w' (.inl e.symm) S'.drop) (fun id fr2 hp2 a' w' e _ => absurd e.symm (by exact fun q => hRb0 q)) (fun l fr2 hp2 a' w' e _ => absurd e.symm (by exact fun q => hRb0 q)) (fun fr2 hp2 a' w' e S' => fin fr2 hp2 a' w' (.inr e.symm) S')
theorem fnS_okD {C : Cx} {vs : Vs} (X : CxOk C vs) (hname : nameOk C = true) (hv : rfFree C = true) : FnOkD (C.env vs) C.self (fnS C) := by
  refine fnS_okD' X (fun fn hf => ?_) fun fn c n hf hc hlen z hz => ?_
  · unfold nameOk at hname
    have e : getO C.P.funcs.toList C.self = some fn := by rw [getO_eq, Array.getElem?_toList]; exact hf
    rw [e] at hname
    simpa using hname
  · unfold rfFree at hv
    have e : getO C.P.funcs.toList C.self = some fn := by rw [getO_eq, Array.getElem?_toList]; exact hf
    rw [e] at hv
    simp only [hc] at hv
    rw [noRF_out hv] at hz
    cases hz
end Go.Proofs.YtlffjnddiiojnaaGreatDoor.Ev

/- A function that defers one call at its head. -/
namespace Go.Proofs.YtlffjnddiiojnaaGreatDoor.Ev
theorem shareKD_out {V : Env} {R : Res} (hR : R ≠ .fail) {f : FuncId} {G : FnS} (hG : FnOkD V f G) {a : Row} {hp : Hp} {k : AV → Hp → Res} (h : shareK G a hp k = R) : Can V.P f ∧ ∃ v hp', k v hp' = R ∧
    ∀ (w : World) (μ : Mu) (F : Nat → Prop) (args : Array Value) (n : Nat) (u : FrameMode), HRel V μ F hp w → Args w F μ a args → CallsDIn (Wf none) n V.P f args u w fun e u' w' => u' = u ∧ ∃ x, e = .returned x ∧ ∃ μ' F', CRel w' F' μ' v x ∧ HRel V μ' F' hp' w' ∧ ExtC μ F hp w μ' F' hp' w' := by
  cases hb : G.f a hp with
  | val v h1 =>
    have h' : Hp.rec (motive := fun _ => Res) (fun t nx _ _ => Hp.rec (motive := fun _ => Res) (fun _ _ pr rb => k v ⟨t, nx, pr, rb⟩) hp) h1 = R := by
      unfold shareK at h
      rw [hb] at h; exact h
    obtain ⟨hcan, v', hp', e, H⟩ := hG a hp _ hb (by simp)
    injection e with ev eh
    subst ev; subst eh
    refine ⟨hcan, v, ⟨h1.t, h1.nx, hp.pr, hp.rb⟩, h', fun w μ F args n u hH ha => (H w μ F args n u hH ha).mono fun e u' w' ⟨e0, x, e1, μ', F', hv1, h2, h3⟩ => ⟨e0, x, e1, μ', F', hv1, ⟨h2.blk, h2.excl, h2.dom, h2.imm, h2.glo⟩, ?_, h3.ids⟩⟩
    have E := h3.ext
    have hpr : h1.pr = hp.pr := E.pr
    exact ⟨E.mu, E.fr, E.size, E.keep, fun B ⟨b, m, o1, o2, o3, o4⟩ => E.own B ⟨b, m, o1, fun hm => o2 (show b ∈ hp.pr from hpr ▸ hm), o3, o4⟩, E.wb, E.newF, E.newMu, E.nx, rfl, rfl, E.io⟩
  | _ => unfold shareK at h; rw [hb] at h; exact fail_out hR h
section
variable {C : Cx} {vs : Vs}
theorem fnSE_ok {G : FnS} {gN : FuncId} (X : CxOk C vs) (hname : nameOk C = true) (hG : FnOkD (C.env vs) gN G) (hq : ∀ q, (getO C.P.funcs.toList C.self).bind (fun fn => fn.body.bind splitD) = some q → q.g = gN) : FnOk (C.env vs) C.self (fnSE C G) := by
  intro l hp R h hR
  unfold fnSE at h
  split at h
  · exact fail_out hR h
  rename_i fn hfn0
  split at h
  · exact fail_out hR h
  rename_i c hbody
  split at h
  · exact fail_out hR h
  rename_i q hq0
  have hgn : q.g = gN := hq q (by rw [hfn0]; show fn.body.bind splitD = some q; rw [hbody]; exact hq0)
  have hname' : (fn.name == "runtime.NumGoroutine") = false := by
    unfold nameOk at hname
    rw [hfn0] at hname
    simpa using hname
  have hfn := hfn0
  rw [getO_eq, Array.getElem?_toList] at hfn
  obtain ⟨hc, m0, m1, m2, m3, m4, m5⟩ := splitD_out hq0
  have h0 : (Bool.rec (motive := fun _ => FnS) noFn (Bool.rec (motive := fun _ => FnS) noFn ⟨fun l hp => must (Nat.beq (lenR l) (fn.params.size + fn.nfree)) (fillK 0 l (blank C.vars.length) fun fr => onlyVal ((denOps C q.a q.a.toList .e (fun g => midE C G fn.results.toList q g)).run .lf fr hp))⟩ (headVars (fn.params.size + fn.nfree) C.vars)) (band (okD q) (band (noRF q.rest) (Nat.ble C.nt fn.ntmps))) : FnS).f l hp = R := h
  cases hnt : band (okD q) (band (noRF q.rest) (Nat.ble C.nt fn.ntmps)) with
  | false => rw [hnt] at h0; exact fail_out hR h0
  | true =>
    rw [hnt] at h0
    rw [band_eq, band_eq, bleN] at hnt
    obtain ⟨hok, hrr, hnt⟩ := hnt
    unfold okD at hok
    rw [band_eq, band_eq, beqN, beqN, beqN] at hok
    obtain ⟨hfs, has, htt⟩ := hok
    have hrr := noRF_out hrr
    cases hhv : headVars (fn.params.size + fn.nfree) C.vars with
    | false => rw [hhv] at h0; exact fail_out hR h0
    | true =>
      rw [hhv] at h0
      have hvars := headVars_out hhv
      obtain ⟨hlen, h1⟩ := must_out hR h0
      rw [beqN, lenR_eq] at hlen
      obtain ⟨fr0, h2, hfr⟩ := fillK_out hR h1
      refine ⟨⟨fn, hfn, by rw [hbody]; rfl, hname'⟩, ?_⟩
      obtain ⟨v, hp', h3, hRv⟩ : ∃ v hp', (denOps C q.a q.a.toList .e (fun g => midE C G fn.results.toList q g)).run .lf fr0 hp = .val v hp' ∧ R = .val v hp' := by
        generalize (denOps C q.a q.a.toList .e (fun g => midE C G fn.results.toList q g)).run .lf fr0 hp = X0 at h2
        cases X0 with
        | val v hp' => exact ⟨v, hp', rfl, h2.symm⟩
        | _ => exact fail_out hR h2
      clear h2
      subst hRv
      refine ⟨v, hp', rfl, fun w μ F args n hH ha => ?_⟩
      refine callsIn_of_wp_marks (c := c) hfn hbody trivial ?_ rfl
      rw [hc]
      have hSt : St C (C.env vs) (.of w.heap.size) .e .lf fr0 hp μ F { tmps := args ++ Array.replicate (fn.ntmps - args.size) undef, defers := [] } w := by
        refine ⟨GInv.e, fun t => ?_, hH, ?_, ⟨[], rfl, trivial⟩⟩
        · show CRel w F μ (sv 0 (look C .e t) .lf fr0) _
          have e : look C .e t = idxOf t C.vars 0 := rfl
          rw [e]
          rcases idxOf_f (l := C.vars) (t := t) (i := 0) with ⟨j, hj⟩ | hj
          · rw [hj]
            show CRel w F μ (fr0.at j) _
            rw [hfr j]
            by_cases hjl : 0 ≤ j ∧ j < 0 + len l
            · rw [if_pos hjl, Nat.sub_zero]
              have ht : t = j := idxOf_inj hj (hvars j (by omega))
              subst ht
              have hlt : t < args.size := by have := ha.1; omega
              have : (args ++ Array.replicate (fn.ntmps - args.size) undef).getD t undef = args[t] := by
                rw [Array.getD_eq_getD_getElem?, Array.getElem?_append_left hlt, Array.getElem?_eq_getElem hlt]; rfl
              rw [this]
              exact ha.2 t _ (Array.getElem?_eq_getElem hlt)
            · rw [if_neg hjl, blank_at]; exact .undef _
          · rw [hj]; exact .undef _
        · show C.nt ≤ (args ++ Array.replicate (fn.ntmps - args.size) undef).size
          simp only [Array.size_append, Array.size_replicate]
          omega
      refine wpIn_seq (wpIn_region ?_)
      rw [List.range_eq_range', show q.a.size = q.a.toList.length by simp]
      refine denOps_ok X.ok hR X.calls X.gl q.a.toList 0 (fun j o hj => by rw [Nat.zero_add, ← Array.getElem?_toList]; exact hj) h3 hSt fun g1 sk1 fr1 hp1 μ1 F1 a1 w1 e1 T1 E1 hdf1 => ?_
      obtain ⟨hns, e2⟩ := iff_out hR e1
      obtain ⟨hlook, hlt⟩ := noSlot_out hns
      obtain ⟨u, e3, hlu, hnu⟩ := ak_out hR (l := q.caps.toList) (k := fun u => endResE C G fn.results.toList u (((den C q.rest).run g1 (fun _ => okS) [] rtS).run sk1 fr1 hp1)) e2
      generalize hRb : ((den C q.rest).run g1 (fun _ => okS) [] rtS).run sk1 fr1 hp1 = Rb at e3
      have hRb0 : Rb ≠ .fail := fun e => by rw [e] at e3; exact hR e3.symm
      obtain ⟨fr', hp2, hor, e4⟩ : ∃ fr' hp2, (Rb = .ok fr' hp2 ∨ Rb = .ret fr' hp2) ∧ finE C G fn.results.toList u fr' hp2 = .val v hp' := by
        cases Rb with
        | ok fr' hp2 => exact ⟨fr', hp2, .inl rfl, e3⟩
        | ret fr' hp2 => exact ⟨fr', hp2, .inr rfl, e3⟩
        | _ => exact fail_out hR e3
      obtain ⟨hcan, vd, hpd, e5, hdf⟩ := shareKD_out hR hG e4
      obtain ⟨v2, e6, H⟩ := endF_out (vs := vs) X.ok hR e5
      cases e6
      have hfs' : q.fs = #[] := Array.eq_empty_of_size_eq_zero hfs
      have has' : q.as = #[] := Array.eq_empty_of_size_eq_zero has
      -- the two operations
      have hO : ∀ {a : Act} {w : World} {F : Nat → Prop} {μ : Mu}, (C.env vs).Glo w F → (∀ t, CRel w F μ (sig C g1 sk1 fr1 t) (a.tmps.getD t undef)) → ∀ i x, q.caps.toList[i]? = some x → CRel w F μ (nth u i) (a.eval x) := fun hg hs i x hx => by
        rw [hnu i x hx]; exact ov_rel X.gl hg x fun t _ => hs t
      let fv : Value := .func (.func q.g) #[] (q.caps.map a1.eval)
      let dd : Deferred := { target := .fn (.func q.g) (q.caps.map a1.eval), args := #[] }
      refine wpIn_seq (wpIn_region ?_)
      show wpOpsIn (Wf none) n C.P #[q.o0, q.o1] _ [0, 1] a1 w1
      rw [wpOpsIn_cons, wpOpIn]
      show (if Region.wanted q.o0 (yielded #[q.o0, q.o1] a1.tmps) then _ else _)
      have hw0 : Region.wanted q.o0 (yielded #[q.o0, q.o1] a1.tmps) = true := by simp [Region.wanted, m2]
      rw [if_pos hw0]
      refine wp_value (V := C.env vs) (w' := w1) (x := fv) (nx := .value fv) (fun c hx => by have hx' : q.o0.op = _ := hx; rw [m0] at hx'; cases hx') ?_ (.inl rfl) ?_
      · show (execOp a1.eval q.o0).run C.P w1 = _
        simp only [execOp, m0, hfs']
        rw [show (#[] : Array Operand).map a1.eval = #[] from by simp]
        rfl
      rw [wpOpsIn_cons, wpOpIn]
      show (if Region.wanted q.o1 (yielded #[q.o0, q.o1] (a1.put q.o0.dst fv).tmps) then _ else _)
      have hw1 : Region.wanted q.o1 (yielded #[q.o0, q.o1] (a1.put q.o0.dst fv).tmps) = true := by simp [Region.wanted, m5]
      rw [if_pos hw1]
      refine ⟨fun _ _ => trivial, ?_⟩
      have hev : (a1.put q.o0.dst fv).eval (.tmp q.t') = fv := by
        rw [m1, ← htt]
        have : q.t < a1.tmps.size := Nat.lt_of_lt_of_le hlt T1.nt
        simp [Act.put, Act.eval, this]
      have hsem : (q.o1.semAt none (a1.put q.o0.dst fv).eval).run C.P w1 = .ok (.defer dd) w1 := by
        rw [Oper.semAt_none]
        simp only [execOp, m3, resolve, has', hev, Deferred.ofValue, Sem.run_bind, Sem.run_pure]
        simp [fv, dd, Result.andThen]
      show q.o1.uponIn (Wf none) n C.P _ _ _ ((q.o1.semAt none (a1.put q.o0.dst fv).eval).run C.P w1)
      rw [hsem]
      -- the rest
      let s0 : Base := ⟨w1.heap.size, [dd], fun d hd r e => by
        rw [List.mem_singleton] at hd
        subst hd
        cases e⟩
      let a2 : Act := { a1.put q.o0.dst fv with defers := dd :: (a1.put q.o0.dst fv).defers }.put q.o1.dst undef
      show q.rest.wpIn (Wf none) n C.P _ a2 w1
      have ha2 : a2.defers = [dd] := by
        show ({ a1.put q.o0.dst fv with defers := dd :: (a1.put q.o0.dst fv).defers }.put q.o1.dst undef).defers = _
        rw [(put_size _ _ _).2]
        show dd :: (a1.put q.o0.dst fv).defers = _
        rw [(put_size _ _ _).2, hdf1]
      have ht2 : a2.tmps = (a1.put q.o0.dst fv).tmps := by
        show ({ a1.put q.o0.dst fv with defers := dd :: (a1.put q.o0.dst fv).defers }.put q.o1.dst undef).tmps = _
        rw [m4]; rfl
      have hsl2 : ∀ t, CRel w1 F1 μ1 (sig C g1 sk1 fr1 t) (a2.tmps.getD t undef) := fun t => by
        rw [ht2, m1]
        by_cases e : t = q.t
        · subst e
          have : sig C g1 sk1 fr1 q.t = .undef := by show sv g1.d (look C g1 q.t) sk1 fr1 = _; rw [hlook]; rfl
          rw [this]; exact .undef _
        · have : (a1.put (some q.t) fv).tmps.getD t undef = a1.tmps.getD t undef := by
            simp only [Act.put, Array.getD_eq_getD_getElem?, Array.getElem?_setIfInBounds, if_neg (Ne.symm e)]
          rw [this]; exact T1.sl t
      have St2 : St C (C.env vs) (s0.at w1.heap.size) g1 sk1 fr1 hp1 μ1 F1 a2 w1 := ⟨T1.gi, hsl2, T1.h, by rw [ht2, (put_size _ _ _).1]; exact T1.nt, ⟨[], by rw [ha2]; rfl, trivial⟩⟩
      have hcr : ∀ i x, q.caps.toList[i]? = some x → CRel w1 F1 μ1 (nth u i) (a1.eval x) := hO T1.h.glo T1.sl
      have fin : ∀ (fr2 : Fr) (hp3 : Hp) (a' : Act) (w' : World), (Rb = .ok fr2 hp3 ∨ Rb = .ret fr2 hp3) → At C vs s0 μ1 F1 hp1 w1 .e .lf fr2 hp3 a' w' →
          LeavesInM (Wf none) n C.P fn a'.tmps (fun e w' => ∃ x, e = .returned x ∧ ∃ μ' F', CRel w' F' μ' v x ∧ HRel (C.env vs) μ' F' hp' w' ∧ ExtC μ F hp w μ' F' hp' w') a'.defers .returning w' := fun fr2 hp3 a' w' hor2 ⟨μ', F', S', E'⟩ => by
        have hsame : fr2 = fr' ∧ hp3 = hp2 := by
          rcases hor with e | e <;> rcases hor2 with e2 | e2 <;> rw [e] at e2 <;> cases e2 <;> exact ⟨rfl, rfl⟩
        obtain ⟨rfl, rfl⟩ := hsame
        obtain ⟨ms, hms, hmk⟩ := S'.df
        rw [hms]
        refine leaves_marks (V := C.env vs) (s0 := s0) (μ := μ') (F := F') (hp := hp3) (μ0 := μ1) (F0 := F1) (h0 := hp1) (w0 := w1) (wI := w') (fun w2 H2 E2 hI => ?_) (Nat.le_refl _) ms w' S'.h E' (fun _ _ => rfl) hmk
        have ha0 : Args w2 F' μ' u (q.caps.map a1.eval) := by
          refine ⟨by rw [Array.size_map, hlu, Array.length_toList], fun i y hy => ?_⟩
          rw [Array.getElem?_map] at hy
          obtain ⟨x, hx, rfl⟩ := Option.map_eq_some_iff.1 hy
          exact (hcr i x (by rw [Array.getElem?_toList]; exact hx)).extC T1.h E2
        refine ⟨by simp, .inr ⟨(fun h => by cases h), _, _, q.g, _, rfl, ?_, fun _ _ => trivial, CallsDIn.mono (hgn ▸ hdf w2 μ' F' _ (n - 1) .returning H2 ha0) ?_⟩⟩
        · show (callFunc q.g (#[] ++ q.caps.map a1.eval)).run C.P w2 = .ok (.enter q.g (q.caps.map a1.eval)) w2
          rw [Array.empty_append]
          exact run_callFunc (hgn ▸ hcan) _ w2
        · rintro e u' w3 ⟨rfl, xd, rfl, μ3, F3, _, H3, E3⟩
          obtain ⟨x, q1, q2⟩ := H (fn := fn) (tmps := a'.tmps) rfl H3 fun t => ((S'.sl t).mono hI (fun _ h => h) (fun _ _ h => h)).extC H2 E3
          exact ⟨x, q1, x, rfl, μ3, F3, q2, H3, (E1.trans E2).trans E3⟩
      refine (runOk X q.rest (by rw [hrr]; exact fun z hz => (by cases hz))).1 (s0 := s0) hRb0 hRb ⟨μ1, F1, St2, ExtC.refl _ _ _ _⟩ (fun g2 sk2 fr2 hp3 a' w' e S' => fin fr2 hp3 a' w' (.inl e.symm) S'.drop) (fun id fr2 hp3 a' w' e _ => absurd e.symm (by exact fun q => hRb0 q)) (fun l fr2 hp3 a' w' e _ => absurd e.symm (by exact fun q => hRb0 q)) (fun fr2 hp3 a' w' e S' => fin fr2 hp3 a' w' (.inr e.symm) S')
end
end Go.Proofs.YtlffjnddiiojnaaGreatDoor.Ev

/- A function whose result at some arguments is known. -/
namespace Go.Proofs.YtlffjnddiiojnaaGreatDoor.Ev
noncomputable section
def AV.cs {ρ : Type} (y : AV) (i : Nat → Nat → ρ) (b : Bool → ρ) (s p : Nat → Nat → ρ) (m v : Nat → Nat → Nat → Nat → ρ) (vr : Row → ρ → ρ) (a t : Row → Nat → ρ) (x : Nat → Row → Nat → Nat → Nat → ρ) : ρ :=
  @AV.rec (fun _ => ρ) (fun _ => Unit) i b s p m (fun t o n z _ => vr t (v o n z 0)) (fun u n _ => a u n) (fun u n _ => t u n) (fun g u a b c _ => x g u a b c) () (fun _ _ _ _ _ _ => ()) y
def no2 : Nat → Nat → Bool := fun _ _ => false
def no4 : Nat → Nat → Nat → Nat → Bool := fun _ _ _ _ => false
def no1 : Bool → Bool := fun _ => false
def noV : Row → Bool → Bool := fun _ _ => false
def noA : Row → Nat → Bool := fun _ _ => false
def noX : Nat → Row → Nat → Nat → Nat → Bool := fun _ _ _ _ _ => false
def beqB (a b : Bool) : Bool := Bool.rec (motive := fun _ => Bool) (bnot b) b a
def eqTt : Row → Row → Bool := fun t => @AV.rec_1 (fun _ => AV → Bool) (fun _ => Row → Bool)
  (fun k n y => y.cs (fun k' n' => band (Nat.beq n n') (Nat.beq k k')) no1 no2 no2 no4 no4 noV noA noA noX)
  (fun b y => y.cs no2 (fun c => beqB b c) no2 no2 no4 no4 noV noA noA noX)
  (fun s n y => y.cs no2 no1 (fun s' n' => band (Nat.beq s s') (Nat.beq n n')) no2 no4 no4 noV noA noA noX)
  (fun s n y => y.cs no2 no1 no2 (fun s' n' => band (Nat.beq s s') (Nat.beq n n')) no4 no4 noV noA noA noX)
  (fun b o n z y => y.cs no2 no1 no2 no2 (fun b' o' n' z' => band (Nat.beq b b') (band (Nat.beq o o') (band (Nat.beq n n') (Nat.beq z z')))) no4 noV noA noA noX)
  (fun _ o n z ih y => y.cs no2 no1 no2 no2 no4 (fun o' n' z' _ => band (Nat.beq o o') (band (Nat.beq n n') (Nat.beq z z'))) (fun t' b => band b (ih t')) noA noA noX)
  (fun _ n ih y => y.cs no2 no1 no2 no2 no4 no4 noV (fun t' n' => band (Nat.beq n n') (ih t')) noA noX)
  (fun _ n ih y => y.cs no2 no1 no2 no2 no4 no4 noV noA (fun t' n' => band (Nat.beq n n') (ih t')) noX)
  (fun g _ a b c ih y => y.cs no2 no1 no2 no2 no4 no4 noV noA noA (fun g' t' a' b' c' => band (band (Nat.beq g g') (band (Nat.beq a a') (band (Nat.beq b b') (Nat.beq c c')))) (ih t')))
  (fun y => Tr.rec (motive := fun _ => Bool) true (fun _ _ _ _ _ => false) y)
  (fun _ _ _ iv il ir y => Tr.rec (motive := fun _ => Bool) false (fun v l r _ _ => band (ir r) (band (il l) (iv v))) y) t
def emptyHp (h : Hp) : Bool := Hp.rec (motive := fun _ => Bool) (fun t nx pr rb => Tr.rec (motive := fun _ => Bool) (band (Nat.beq nx 0) (band (Nat.beq rb 0) (List.rec (motive := fun _ => Bool) true (fun _ _ _ => false) pr))) (fun _ _ _ _ _ => false) t) h
def knownF (a : Row) (v : AV) (h : Hp) (F : FnS) : FnS := ⟨fun l hp => when (band (emptyHp hp) (eqTt l a)) (.val v h) (F.f l hp)⟩
end
theorem emptyHp_out {h : Hp} (e : emptyHp h = true) : h = .empty := by
  obtain ⟨t, nx, pr, rb⟩ := h
  cases t with
  | nd a b c => exact Bool.noConfusion e
  | lf =>
    have e' : band (Nat.beq nx 0) (band (Nat.beq rb 0) (List.rec (motive := fun _ => Bool) true (fun _ _ _ => false) pr)) = true := e
    rw [band_eq, band_eq, beqN, beqN] at e'
    obtain ⟨rfl, rfl, e3⟩ := e'
    cases pr with
    | nil => rfl
    | cons a l => exact Bool.noConfusion e3
noncomputable def eqAa : AV → AV → Bool := fun t => @AV.rec (fun _ => AV → Bool) (fun _ => Row → Bool)
  (fun k n y => y.cs (fun k' n' => band (Nat.beq n n') (Nat.beq k k')) no1 no2 no2 no4 no4 noV noA noA noX)
  (fun b y => y.cs no2 (fun c => beqB b c) no2 no2 no4 no4 noV noA noA noX)
  (fun s n y => y.cs no2 no1 (fun s' n' => band (Nat.beq s s') (Nat.beq n n')) no2 no4 no4 noV noA noA noX)
  (fun s n y => y.cs no2 no1 no2 (fun s' n' => band (Nat.beq s s') (Nat.beq n n')) no4 no4 noV noA noA noX)
  (fun b o n z y => y.cs no2 no1 no2 no2 (fun b' o' n' z' => band (Nat.beq b b') (band (Nat.beq o o') (band (Nat.beq n n') (Nat.beq z z')))) no4 noV noA noA noX)
  (fun _ o n z ih y => y.cs no2 no1 no2 no2 no4 (fun o' n' z' _ => band (Nat.beq o o') (band (Nat.beq n n') (Nat.beq z z'))) (fun t' b => band b (ih t')) noA noA noX)
  (fun _ n ih y => y.cs no2 no1 no2 no2 no4 no4 noV (fun t' n' => band (Nat.beq n n') (ih t')) noA noX)
  (fun _ n ih y => y.cs no2 no1 no2 no2 no4 no4 noV noA (fun t' n' => band (Nat.beq n n') (ih t')) noX)
  (fun g _ a b c ih y => y.cs no2 no1 no2 no2 no4 no4 noV noA noA (fun g' t' a' b' c' => band (band (Nat.beq g g') (band (Nat.beq a a') (band (Nat.beq b b') (Nat.beq c c')))) (ih t')))
  (fun y => Tr.rec (motive := fun _ => Bool) true (fun _ _ _ _ _ => false) y)
  (fun _ _ _ iv il ir y => Tr.rec (motive := fun _ => Bool) false (fun v l r _ _ => band (ir r) (band (il l) (iv v))) y) t
theorem eqTt_out : ∀ (t u : Row), eqTt t u = true → t = u := by
  refine @AV.rec_1 (fun a => ∀ b, eqAa a b = true → a = b) (fun t => ∀ u, eqTt t u = true → t = u) ?_ ?_ ?_ ?_ ?_ ?_ ?_ ?_ ?_ ?_ ?_
  · intro k n y h
    cases y with
    | int k' n' =>
      have h' : band (Nat.beq n n') (Nat.beq k k') = true := h
      rw [band_eq, beqN, beqN] at h'
      rw [h'.1, h'.2]
    | _ => exact Bool.noConfusion h
  · intro b y h
    cases y with
    | bool c =>
      have h' : beqB b c = true := h
      revert h'; cases b <;> cases c <;> simp [beqB, bnot]
    | _ => exact Bool.noConfusion h
  · intro k n y h
    cases y with
    | str k' n' =>
      have h' : band (Nat.beq k k') (Nat.beq n n') = true := h
      rw [band_eq, beqN, beqN] at h'
      rw [h'.1, h'.2]
    | _ => exact Bool.noConfusion h
  · intro k n y h
    cases y with
    | ptr k' n' =>
      have h' : band (Nat.beq k k') (Nat.beq n n') = true := h
      rw [band_eq, beqN, beqN] at h'
      rw [h'.1, h'.2]
    | _ => exact Bool.noConfusion h
  · intro b o n z y h
    cases y with
    | ms b' o' n' z' =>
      have h' : band (Nat.beq b b') (band (Nat.beq o o') (band (Nat.beq n n') (Nat.beq z z'))) = true := h
      rw [band_eq, band_eq, band_eq, beqN, beqN, beqN, beqN] at h'
      rw [h'.1, h'.2.1, h'.2.2.1, h'.2.2.2]
    | _ => exact Bool.noConfusion h
  · intro t o n z ih y h
    cases y with
    | vs t' o' n' z' =>
      have h' : band (band (Nat.beq o o') (band (Nat.beq n n') (Nat.beq z z'))) (eqTt t t') = true := h
      rw [band_eq, band_eq, band_eq, beqN, beqN, beqN] at h'
      rw [h'.1.1, h'.1.2.1, h'.1.2.2, ih _ h'.2]
    | _ => exact Bool.noConfusion h
  · intro t n ih y h
    cases y with
    | agg t' n' =>
      have h' : band (Nat.beq n n') (eqTt t t') = true := h
      rw [band_eq, beqN] at h'
      rw [h'.1, ih _ h'.2]
    | _ => exact Bool.noConfusion h
  · intro t n ih y h
    cases y with
    | tup t' n' =>
      have h' : band (Nat.beq n n') (eqTt t t') = true := h
      rw [band_eq, beqN] at h'
      rw [h'.1, ih _ h'.2]
    | _ => exact Bool.noConfusion h
  · intro g t a b c ih y h
    cases y with
    | x g' t' a' b' c' =>
      have h' : band (band (Nat.beq g g') (band (Nat.beq a a') (band (Nat.beq b b') (Nat.beq c c')))) (eqTt t t') = true := h
      rw [band_eq, band_eq, band_eq, band_eq, beqN, beqN, beqN, beqN] at h'
      rw [h'.1.1, h'.1.2.1, h'.1.2.2.1, h'.1.2.2.2, ih _ h'.2]
    | _ => exact Bool.noConfusion h
  · intro u h
    cases u with
    | lf => rfl
    | nd a b c => exact Bool.noConfusion h
  · intro v l r iv il ir u h
    cases u with
    | lf => exact Bool.noConfusion h
    | nd v' l' r' =>
      have h' : band (eqTt r r') (band (eqTt l l') (eqAa v v')) = true := h
      rw [band_eq, band_eq] at h'
      rw [iv _ h'.2.2, il _ h'.2.1, ir _ h'.1]
/-- What a function comes to, with a heap of its own that holds nothing else. -/
noncomputable def cpt (G : FnS) : FnS := ⟨fun l hp => must (emptyHp hp) (pureK mem G l hp hp fun v h => .val v h)⟩
theorem cpt_ok {V : Env} {f : FuncId} {G : FnS} (hG : FnOk V f G) : FnOk V f (cpt G) := by
  intro l hp R h hR
  obtain ⟨he, h1⟩ := must_out hR (show must (emptyHp hp) (pureK mem G l hp hp fun v h => .val v h) = R from h)
  obtain rfl := emptyHp_out he
  obtain ⟨hc, v, hp', e, D⟩ := pureK_out (a0 := l) mem_ok hR hG (fun w F μ H => ⟨F, H, Ext.refl _ _ _ _, fun i u hu => by
    have : μ = noMu := funext fun b => by
      cases hx : μ b with
      | none => rfl
      | some m => exact absurd (H.dom b m hx).1 (Nat.not_lt_zero _)
    subst this
    exact hu⟩) rfl h1
  exact ⟨hc, v, hp', e.symm, fun w μ F args n hH ha => (D w μ F args n hH ha).mono fun e w' ⟨x, e1, μ', F', h1, hid, h2, h3⟩ => ⟨x, e1, μ', F', h1, h2, .of h3 hid⟩⟩
theorem knownF_ok {V : Env} {f : FuncId} {F F' : FnS} {a : Row} {v : AV} {h : Hp} (hF : FnOk V f F) (hF' : FnOk V f F') (e : F'.f a .empty = .val v h) : FnOk V f (knownF a v h F) := by
  intro l hp R hR hne
  rcases when_out hne (show when (band (emptyHp hp) (eqTt l a)) (.val v h) (F.f l hp) = R from hR) with ⟨h1, h2⟩ | ⟨_, h2⟩
  · rw [band_eq] at h1
    obtain rfl := emptyHp_out h1.1
    obtain rfl := eqTt_out _ _ h1.2
    exact hF' l .empty R (e.trans h2) hne
  · exact hF l hp R h2 hne
end Go.Proofs.YtlffjnddiiojnaaGreatDoor.Ev

/- Functions with many known results: by the number that the first argument's cell 11 holds. -/
namespace Go.Proofs.YtlffjnddiiojnaaGreatDoor.Ev
noncomputable section
def cellN (i : Nat) : Row → AV := Nat.rec (motive := fun _ => Row → AV) (fun t => Tr.rec (motive := fun _ => AV) .undef (fun v _ _ _ _ => v) t) (fun _ ih t => Tr.rec (motive := fun _ => AV) .undef (fun _ _ r _ _ => ih r) t) i
def intN (v : AV) : Nat := v.cs (fun _ n => n) (fun _ => 0) (fun _ _ => 0) (fun _ _ => 0) (fun _ _ _ _ => 0) (fun _ _ _ _ => 0) (fun _ _ => 0) (fun _ _ => 0) (fun _ _ => 0) (fun _ _ _ _ _ => 0)
def selM (l : Row) : Nat := Tr.rec (motive := fun _ => Nat) 0 (fun v _ _ _ _ => v.cs (fun _ _ => 0) (fun _ => 0) (fun _ _ => 0) (fun _ _ => 0) (fun _ _ _ _ => 0) (fun _ _ _ _ => 0) (fun _ _ => 0) (fun t _ => intN (cellN 11 t)) (fun _ _ => 0) (fun _ _ _ _ _ => 0)) l
def pickT (tab : List (Nat × FnS)) (d : FnS) (l : Row) (hp : Hp) (n : Nat) : Res := List.rec (motive := fun _ => Res) (d.f l hp) (fun p _ ih => Bool.rec (motive := fun _ => Res) ih (p.2.f l hp) (Nat.beq p.1 n)) tab
def chooseF (sel : Row → Nat) (tab : List (Nat × FnS)) (d : FnS) : FnS := ⟨fun l hp => forceN (sel l) fun n => pickT tab d l hp n⟩
end
theorem ch_nil {V : Env} {f : FuncId} : ∀ p ∈ ([] : List (Nat × FnS)), FnOk V f p.2 := fun _ h => (by cases h)
theorem ch_cons {V : Env} {f : FuncId} {n : Nat} {G : FnS} {t : List (Nat × FnS)} (h : FnOk V f G) (ht : ∀ p ∈ t, FnOk V f p.2) : ∀ p ∈ (n, G) :: t, FnOk V f p.2 := fun p hp => by
  rcases List.mem_cons.1 hp with rfl | hp
  · exact h
  · exact ht p hp
theorem chooseF_ok {V : Env} {f : FuncId} {sel : Row → Nat} {tab : List (Nat × FnS)} {d : FnS} (ht : ∀ p ∈ tab, FnOk V f p.2) (hd : FnOk V f d) : FnOk V f (chooseF sel tab d) := by
  intro l hp R h hne
  have h' : pickT tab d l hp (sel l) = R := by rw [← h]; exact (forceN_eq _ _).symm
  clear h
  induction tab with
  | nil => exact hd l hp R h' hne
  | cons p t ih =>
    have h2 : (Bool.rec (motive := fun _ => Res) (pickT t d l hp (sel l)) (p.2.f l hp) (Nat.beq p.1 (sel l)) : Res) = R := h'
    cases hb : Nat.beq p.1 (sel l) with
    | true => rw [hb] at h2; exact ht p (List.mem_cons_self ..) l hp R h2 hne
    | false => rw [hb] at h2; exact ih (fun q hq => ht q (List.mem_cons_of_mem _ hq)) h2
end Go.Proofs.YtlffjnddiiojnaaGreatDoor.Ev

/- Marks made anew: rows all of whose cells are plain. -/
namespace Go.Proofs.YtlffjnddiiojnaaGreatDoor.Ev
noncomputable section
def plainB (v : AV) : Bool := v.cs (fun _ _ => true) (fun _ => true) (fun _ _ => true) (fun _ _ => false) (fun _ _ _ _ => false) (fun _ _ _ _ => false) (fun _ _ => false) (fun _ _ => false) (fun _ _ => false) (fun g _ _ _ _ => plainX g)
def lplB (l : Row) : Bool := Tr.rec (motive := fun _ => Bool) true (fun v _ _ _ ih => band (plainB v) ih) l
def elB (z : Nat) (v : AV) : Bool := Bool.rec (motive := fun _ => Bool) (v.cs (fun _ _ => false) (fun _ => false) (fun _ _ => false) (fun _ _ => false) (fun _ _ _ _ => false) (fun _ _ _ _ => false) (fun _ _ => false) (fun l _ => lplB l) (fun _ _ => false) (fun _ _ _ _ _ => false)) (plainB v) (Nat.beq z 1)
def trB (z : Nat) (t : Row) : Bool := Tr.rec (motive := fun _ => Bool) true (fun v _ _ il ir => band (elB z v) (band il ir)) t
def flatB (B : Blk) : Blk := Blk.rec (motive := fun _ => Blk) .dead (fun rw fl z s t => .row rw (Bool.rec (motive := fun _ => Bool) (trB z t) true fl) z s t) (fun n t => .map n t) (fun st f i fr => .loop st f i fr) (fun id => .fwd id) B
def flatT (t : Tr Blk) : Tr Blk := Tr.rec (motive := fun _ => Tr Blk) .lf (fun B _ _ il ir => .nd (flatB B) il ir) t
def flatH (h : Hp) : Hp := Hp.rec (motive := fun _ => Hp) (fun t nx pr rb => ⟨flatT t, nx, pr, rb⟩) h
def cptF (G : FnS) : FnS := ⟨fun l hp => must (emptyHp hp) (pureK mem G l hp hp fun v h => .val v (flatH h))⟩
end
theorem plainB_eq (v : AV) : plainB v = v.isPlain := by cases v <;> rfl
theorem lplB_out : ∀ {l : Row}, lplB l = true → ∀ i, i < len l → (nth l i).isPlain = true
  | .lf, _, i, hi => absurd hi (Nat.not_lt_zero _)
  | .nd v a r, h, i, hi => by
    have h' : band (plainB v) (lplB r) = true := h
    rw [band_eq, plainB_eq] at h'
    cases i with
    | zero => exact h'.1
    | succ i => exact lplB_out h'.2 i (Nat.lt_of_succ_lt_succ hi)
theorem elB_free {z : Nat} {v : AV} (h : elB z v = true) (j : Nat) : (if z = 1 then v else elc v j).isFree = true := by
  by_cases e : z = 1
  · subst e
    have h' : plainB v = true := h
    rw [plainB_eq] at h'
    rw [if_pos rfl]
    exact isFree_of_plain h'
  · rw [if_neg e]
    have hb : Nat.beq z 1 = false := by
      cases hb : Nat.beq z 1 with
      | false => rfl
      | true => rw [beqN] at hb; exact absurd hb e
    unfold elB at h
    rw [hb] at h
    cases v with
    | agg l n =>
      have h' : lplB l = true := h
      show (nth l j).isFree = true
      by_cases hj : j < len l
      · exact isFree_of_plain (lplB_out h' j hj)
      · rw [nth_ge (by omega)]; rfl
    | _ => exact Bool.noConfusion h
theorem trB_at {z : Nat} : ∀ {t : Row}, trB z t = true → ∀ i, elB z (t.at i) = true ∨ t.at i = .undef
  | .lf, _, i => .inr (get_lf _ _)
  | .nd v l r, h, i => by
    have h' : band (elB z v) (band (trB z l) (trB z r)) = true := h
    rw [band_eq, band_eq] at h'
    cases i with
    | zero => exact .inl h'.1
    | succ j =>
      have e : (Tr.nd v l r).at (j + 1) = if j % 2 = 0 then l.at (j / 2) else r.at (j / 2) := get_succ _ _ _ _ _
      rw [e]
      split
      · exact trB_at h'.2.1 _
      · exact trB_at h'.2.2 _
theorem trB_free {z : Nat} {t : Row} (h : trB z t = true) (i : Nat) : (cellAt z t i).isFree = true := by
  unfold cellAt
  by_cases e : z = 1
  · subst e
    rw [if_pos rfl]
    rcases trB_at h i with h1 | h1
    · exact elB_free h1 0
    · rw [h1]; rfl
  · rw [if_neg e]
    rcases trB_at h (i / z) with h1 | h1
    · have := elB_free h1 (i % z)
      rw [if_neg e] at this
      exact this
    · rw [h1]; rfl
theorem flatT_get : ∀ (t : Tr Blk) (b : Nat), (flatT t).get .dead b = flatB (t.get .dead b)
  | .lf, b => by
    show (Tr.lf : Tr Blk).get .dead b = flatB ((Tr.lf : Tr Blk).get .dead b)
    rw [get_lf]; rfl
  | .nd B l r, 0 => rfl
  | .nd B l r, j + 1 => by
    show (Tr.nd (flatB B) (flatT l) (flatT r)).get .dead (j + 1) = _
    rw [get_succ, get_succ, flatT_get l, flatT_get r]
    split <;> rfl
theorem flatH_at (h : Hp) (b : Nat) : (flatH h).at b = flatB (h.at b) := flatT_get h.t b
theorem flatB_wr (B : Blk) : (flatB B).wr = B.wr := by cases B <;> rfl
theorem flatB_rel {V : Env} {w : World} {F : Nat → Prop} {μ : Mu} {b : Nat} {B : Blk} (h : BRel V w F μ b B) : BRel V w F μ b (flatB B) := by
  cases B with
  | row rw fl z s t =>
    obtain ⟨m, c, T, fz, h1, h2, h3, h4, h5, h6, h7⟩ := h
    refine ⟨m, c, T, fz, h1, h2, h3, h4, fun e i hi => ?_, h6, h7⟩
    cases fl with
    | true => exact h5 rfl i hi
    | false => exact trB_free e i
  | _ => exact h
theorem HRel.flat {V : Env} {μ : Mu} {F : Nat → Prop} {h : Hp} {w : World} (H : HRel V μ F h w) : HRel V μ F (flatH h) w :=
  ⟨fun b => by rw [flatH_at]; exact flatB_rel (H.blk b), fun b b' m m' h1 h2 => by
    rw [flatH_at, flatB_wr] at h1 h2
    exact H.excl b b' m m' h1 h2, H.dom, H.imm, H.glo⟩
theorem flat_wb {h : Hp} {μ : Mu} {B : Nat} (hw : WB (flatH h) μ B) : WB h μ B := by
  obtain ⟨b, m, h1, h2⟩ := hw
  rw [flatH_at, flatB_wr] at h1
  exact ⟨b, m, h1, h2⟩
theorem flat_own {h : Hp} {μ : Mu} {B : Nat} (hw : Own (flatH h) μ B) : Own h μ B := by
  obtain ⟨b, m, h1, h2⟩ := hw
  rw [flatH_at, flatB_wr] at h1
  exact ⟨b, m, h1, h2⟩
theorem ExtC.flat {μ μ' : Mu} {F F' : Nat → Prop} {h h' : Hp} {w w' : World} (E : ExtC μ F h w μ' F' h' w') : ExtC μ F h w μ' F' (flatH h') w' :=
  have e := E.ext
  ⟨⟨e.mu, e.fr, e.size, e.keep, fun B hB => e.own B (flat_own hB), fun B hB => e.wb B (flat_wb hB), e.newF, e.newMu, e.nx, e.pr, e.rb, e.io⟩, E.ids⟩
theorem cptF_ok {V : Env} {f : FuncId} {G : FnS} (hG : FnOk V f G) : FnOk V f (cptF G) := by
  intro l hp R h hR
  obtain ⟨he, h1⟩ := must_out hR (show must (emptyHp hp) (pureK mem G l hp hp fun v h => .val v (flatH h)) = R from h)
  have he0 := he
  obtain rfl := emptyHp_out he
  obtain ⟨hc, v, hp', e, D⟩ := pureK_out (a0 := l) mem_ok hR hG (fun w F μ H => ⟨F, H, Ext.refl _ _ _ _, fun i u hu => by
    have : μ = noMu := funext fun b => by
      cases hx : μ b with
      | none => rfl
      | some m => exact absurd (H.dom b m hx).1 (Nat.not_lt_zero _)
    subst this
    exact hu⟩) rfl h1
  exact ⟨hc, v, flatH hp', e.symm, fun w μ F args n hH ha => (D w μ F args n hH ha).mono fun e w' ⟨x, e1, μ', F', h1, hid, h2, h3⟩ => ⟨x, e1, μ', F', h1, h2.flat, (ExtC.of h3 hid).flat⟩⟩
end Go.Proofs.YtlffjnddiiojnaaGreatDoor.Ev
