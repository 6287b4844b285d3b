import Derived.Test.YtdlohaedegmiaaaGreatDoorEvAB
import Derived.CallsIn
import Derived.Deep.AppendSrc
import Derived.Deep.MidRow
namespace Go.Proofs.YtdlohaedegmiaaaGreatDoor.Ev
theorem aZ {ρ : Type} (b : Bool) (x y : ρ) : (Bool.rec (motive := fun _ => ρ) x y b : ρ) = if b = true then y else x := by cases b <;> rfl
theorem an (a b : Nat) : (Nat.beq a b = true) = (a = b) := propext ⟨fun h => Nat.eq_of_beq_eq_true h, fun h => by subst h; exact Nat.beq_refl a⟩
theorem aK (a b : Nat) : (Nat.ble a b = true) = (a ≤ b) := propext ⟨fun h => Nat.le_of_ble_eq_true h, fun h => Nat.ble_eq_true_of_le h⟩
theorem aG (a b : Bool) : (aW a b = true) = (a = true ∧ b = true) := by cases a <;> cases b <;> simp [aW]
theorem cR (a : Bool) : bZ a = !a := by cases a <;> rfl
theorem lj (a b : Bool) : u6 a b = (a != b) := by cases a <;> cases b <;> rfl
theorem aw (n : Nat) (k : Nat → ab) : aA n k = k n := by cases n <;> rfl
theorem dH (b : Bool) (k : Bool → ab) : eK b k = k b := by cases b <;> rfl
theorem y9 (b : Bool) (x y : ab) : when b x y = if b = true then x else y := by cases b <;> rfl
section out
variable {R : ab} (hR : R ≠ .fail)
include hR
theorem aa {α : Prop} (h : ab.fail = R) : α := absurd h.symm hR
theorem ah {b : Bool} {x : ab} (h : aq b x = R) : b = true ∧ x = R := by
  cases b
  · exact aa hR h
  · exact ⟨rfl, h⟩
theorem ar {b : Bool} {x y : ab} (h : when b x y = R) : (b = true ∧ x = R) ∨ (b = false ∧ y = R) := by
  have _ := hR
  cases b
  · exact .inr ⟨rfl, h⟩
  · exact .inl ⟨rfl, h⟩
theorem aR {v : AV} {f : Nat → Nat → ab} (h : v.bo f = R) : ∃ i n, v = .int i n ∧ f i n = R := by
  cases v <;> first | exact ⟨_, _, rfl, h⟩ | exact aa hR h
theorem dZ {v : AV} {f : Bool → ab} (h : v.dx f = R) : ∃ b, v = .bool b ∧ f b = R := by
  cases v <;> first | exact ⟨_, rfl, h⟩ | exact aa hR h
theorem aM {v : AV} {f : Nat → Nat → ab} (h : v.bW f = R) : ∃ s n, v = .str s n ∧ f s n = R := by
  cases v <;> first | exact ⟨_, _, rfl, h⟩ | exact aa hR h
theorem bU {v : AV} {f : Row → Nat → ab} (h : v.iA f = R) : ∃ t n, v = .agg t n ∧ f t n = R := by
  cases v <;> first | exact ⟨_, _, rfl, h⟩ | exact aa hR h
theorem zm {v : AV} {f : Row → Nat → ab} (h : v.o8 f = R) : ∃ t n, v = .bM t n ∧ f t n = R := by
  cases v <;> first | exact ⟨_, _, rfl, h⟩ | exact aa hR h
theorem fE {v : AV} {f : Nat → Row → Nat → Nat → Nat → ab} (h : v.tO f = R) : ∃ g t a b c, v = .x g t a b c ∧ f g t a b c = R := by
  cases v <;> first | exact ⟨_, _, _, _, _, rfl, h⟩ | exact aa hR h
theorem dL {v : AV} {f : Nat → Nat → ab} {g : Row → Nat → Nat → Nat → ab} (h : v.mC f g = R) : (∃ b o, v = .ptr b o ∧ f b o = R) ∨ (∃ t a b c, v = .x 1 t a b c ∧ g t a b c = R) := by
  cases v <;> first | exact .inl ⟨_, _, rfl, h⟩ | (exact aa hR h) | skip
  rename_i i t a b c
  by_cases hi : i = 1
  · subst hi; exact .inr ⟨_, _, _, _, rfl, h⟩
  · have : Nat.beq i 1 = false := by cases hb : Nat.beq i 1 with | false => rfl | true => exact absurd (Nat.eq_of_beq_eq_true hb) hi
    have h' : (Bool.rec (motive := fun _ => ab) .fail (g t a b c) (Nat.beq i 1) : ab) = R := h
    rw [this] at h'; exact aa hR h'
theorem bF {v : AV} {f : Nat → Nat → Nat → Nat → ab} {r : Row → Nat → Nat → Nat → ab} {z : Nat → ab} {s : Nat → Nat → ab} (h : v.cU f r z s = R) :
    (∃ b o n y, v = .ms b o n y ∧ f b o n y = R) ∨ (∃ t o n y, v = .vs t o n y ∧ r t o n y = R) ∨ (∃ i t a b c, v = .x i t a b c ∧ z i = R) ∨ (∃ x n, v = .str x n ∧ s x n = R) := by
  cases v <;> first | exact .inl ⟨_, _, _, _, rfl, h⟩ | exact .inr (.inl ⟨_, _, _, _, rfl, h⟩) | exact .inr (.inr (.inl ⟨_, _, _, _, _, rfl, h⟩)) | exact .inr (.inr (.inr ⟨_, _, rfl, h⟩)) | exact aa hR h
theorem ki {B : aX} {f : Bool → Bool → Nat → Nat → Row → ab} (h : B.o5 f = R) : ∃ rw fl z s t, B = .row rw fl z s t ∧ f rw fl z s t = R := by
  cases B <;> first | exact ⟨_, _, _, _, _, rfl, h⟩ | exact aa hR h
theorem eY {B : aX} {f : Nat → Row → ab} (h : B.eX f = R) : ∃ n t, B = .map n t ∧ f n t = R := by
  cases B <;> first | exact ⟨_, _, rfl, h⟩ | exact aa hR h
theorem fD {B : aX} {f : Nat → Nat → Nat → Fr → ab} (h : B.kh f = R) : ∃ s g i fr, B = .loop s g i fr ∧ f s g i fr = R := by
  cases B <;> first | exact ⟨_, _, _, _, rfl, h⟩ | exact aa hR h
end out
def Tr.get {α : Type} (d : α) : Tr α → Nat → α
  | .lf, _ => d
  | .nd v l r, i => match i with | 0 => v | j + 1 => if j % 2 = 0 then Tr.get d l (j / 2) else Tr.get d r (j / 2)
abbrev Tr.at (t : Row) (i : Nat) : AV := t.get .uu i
abbrev Hp.at (h : Hp) (b : Nat) : aX := h.t.get .dead b
theorem lW {α : Type} (d : α) (i : Nat) : (Tr.lf : Tr α).get d i = d := by cases i <;> rfl
theorem eT {α : Type} (d v : α) (l r : Tr α) (j : Nat) : (Tr.nd v l r).get d (j + 1) = if j % 2 = 0 then l.get d (j / 2) else r.get d (j / 2) := rfl
def eo {α : Type} (d : α) (t : Tr α) (i : Nat) (x : α) (t' : Tr α) : Prop := ∀ j, t'.get d j = if j = i then x else t.get d j
theorem rY (j : Nat) : j % 2 = 0 ∨ j % 2 = 1 := by omega
theorem a0O {R : ab} (hR : R ≠ .fail) {α : Type} (d : α) (n : Nat) : ∀ {t : Tr α} {i : Nat} {k : α → ab}, (gk d n).f t i k = R → k (t.get d i) = R := by
  induction n with
  | zero => intro t i k h; exact aa hR h
  | succ n ih =>
    intro t i k h
    cases t with
    | lf => rw [lW]; exact h
    | nd v l r =>
      cases i with
      | zero => exact h
      | succ j =>
        rw [eT]
        rcases rY j with hj | hj
        · rw [if_pos hj]
          have h' : (Nat.rec (motive := fun _ => ab) ((gk d n).f l (Nat.div j 2) k) (fun _ _ => (gk d n).f r (Nat.div j 2) k) (j % 2) : ab) = R := h
          rw [hj] at h'; exact ih h'
        · rw [if_neg (by omega)]
          have h' : (Nat.rec (motive := fun _ => ab) ((gk d n).f l (Nat.div j 2) k) (fun _ _ => (gk d n).f r (Nat.div j 2) k) (j % 2) : ab) = R := h
          rw [hj] at h'; exact ih h'
theorem gR {α : Type} {d v x : α} {l l' r : Tr α} {j : Nat} (hj : j % 2 = 0) (h : eo d l (j / 2) x l') : eo d (.nd v l r) (j + 1) x (.nd v l' r) := by
  intro i
  cases i with
  | zero => rw [if_neg (by omega)]; rfl
  | succ i =>
    rw [eT, eT]
    rcases rY i with hi | hi
    · simp only [hi, if_true, h (i / 2)]
      by_cases e : i = j
      · subst e; simp
      · have e1 : ¬ i / 2 = j / 2 := by omega
        have e2 : ¬ i + 1 = j + 1 := by omega
        simp only [e1, e2, if_false]
    · have h1 : ¬ i % 2 = 0 := by omega
      have e2 : ¬ i + 1 = j + 1 := by omega
      simp only [h1, e2, if_false]
theorem ff {α : Type} {d v x : α} {l r r' : Tr α} {j : Nat} (hj : j % 2 = 1) (h : eo d r (j / 2) x r') : eo d (.nd v l r) (j + 1) x (.nd v l r') := by
  intro i
  cases i with
  | zero => rw [if_neg (by omega)]; rfl
  | succ i =>
    rw [eT, eT]
    rcases rY i with hi | hi
    · have e2 : ¬ i + 1 = j + 1 := by omega
      simp only [hi, if_true, e2, if_false]
    · have h1 : ¬ i % 2 = 0 := by omega
      simp only [h1, if_false, h (i / 2)]
      by_cases e : i = j
      · subst e; simp
      · have e1 : ¬ i / 2 = j / 2 := by omega
        have e2 : ¬ i + 1 = j + 1 := by omega
        simp only [e1, e2, if_false]
theorem iW {α : Type} {d x : α} {t' : Tr α} {i : Nat} (h : eo d (.nd d .lf .lf) i x t') : eo d .lf i x t' := by
  intro j; rw [h j]
  by_cases e : j = i
  · simp [e]
  · rw [if_neg e, if_neg e]
    cases j with
    | zero => rfl
    | succ j => rw [eT]; simp only [lW, ite_self]
theorem a3f {R : ab} (hR : R ≠ .fail) {α : Type} (d : α) (n : Nat) : ∀ {t : Tr α} {i : Nat} {x : α} {k : Tr α → ab}, (sk d n).f t i x k = R → ∃ t', eo d t i x t' ∧ k t' = R := by
  induction n with
  | zero => intro t i x k h; exact aa hR h
  | succ n ih =>
    intro t i x k h
    cases t with
    | lf =>
      cases i with
      | zero => exact ⟨_, iW (fun j => by cases j <;> rfl), h⟩
      | succ j =>
        have h' : (Nat.rec (motive := fun _ => ab) ((sk d n).f .lf (Nat.div j 2) x fun l => k (.nd d l .lf)) (fun _ _ => (sk d n).f .lf (Nat.div j 2) x fun r => k (.nd d .lf r)) (j % 2) : ab) = R := h
        rcases rY j with hj | hj
        · rw [hj] at h'; obtain ⟨l, hl, hk⟩ := ih h'; exact ⟨_, iW (gR hj hl), hk⟩
        · rw [hj] at h'; obtain ⟨r, hr, hk⟩ := ih h'; exact ⟨_, iW (ff hj hr), hk⟩
    | nd v l r =>
      cases i with
      | zero => exact ⟨_, fun j => by cases j <;> rfl, h⟩
      | succ j =>
        have h' : (Nat.rec (motive := fun _ => ab) ((sk d n).f l (Nat.div j 2) x fun l' => k (.nd v l' r)) (fun _ _ => (sk d n).f r (Nat.div j 2) x fun r' => k (.nd v l r')) (j % 2) : ab) = R := h
        rcases rY j with hj | hj
        · rw [hj] at h'; obtain ⟨l', hl, hk⟩ := ih h'; exact ⟨_, gR hj hl, hk⟩
        · rw [hj] at h'; obtain ⟨r', hr, hk⟩ := ih h'; exact ⟨_, ff hj hr, hk⟩
structure aT (M : Mem) : Prop where
  rg : ∀ {R : ab}, R ≠ .fail → ∀ {t : Row} {i : Nat} {k : AV → ab}, M.rg.f t i k = R → k (t.at i) = R
  rs : ∀ {R : ab}, R ≠ .fail → ∀ {t : Row} {i : Nat} {x : AV} {k : Row → ab}, M.rs.f t i x k = R → ∃ t', eo .uu t i x t' ∧ k t' = R
  hg : ∀ {R : ab}, R ≠ .fail → ∀ {t : Tr aX} {i : Nat} {k : aX → ab}, M.hg.f t i k = R → k (t.get .dead i) = R
  hs : ∀ {R : ab}, R ≠ .fail → ∀ {t : Tr aX} {i : Nat} {x : aX} {k : Tr aX → ab}, M.hs.f t i x k = R → ∃ t', eo .dead t i x t' ∧ k t' = R
theorem gF : aT mem := ⟨fun hR _ _ _ h => a0O hR _ 24 h, fun hR _ _ _ _ h => a3f hR _ 24 h, fun hR _ _ _ h => a0O hR _ 24 h, fun hR _ _ _ _ h => a3f hR _ 24 h⟩
def Fr.at : Fr → Nat → AV
  | .e, _ => .uu
  | .n a b c d x f g h r, i => match i with | 0 => a | 1 => b | 2 => c | 3 => d | 4 => x | 5 => f | 6 => g | 7 => h | j + 8 => Fr.at r j
theorem qS {R : ab} (hR : R ≠ .fail) : ∀ (i : Nat) {sk : Row} {fr : Fr} {k : AV → ab}, (fget i).get sk fr k = R → k (fr.at i) = R
  | 0, _, fr, _, h | 1, _, fr, _, h | 2, _, fr, _, h | 3, _, fr, _, h | 4, _, fr, _, h | 5, _, fr, _, h | 6, _, fr, _, h | 7, _, fr, _, h => by cases fr <;> first | exact h | exact aa hR h
  | i + 8, _, fr, _, h => by
    cases fr with
    | e => exact aa hR h
    | n a b c d e f g hh r => exact qS hR i (fr := r) h
def FSet (fr : Fr) (i : Nat) (x : AV) (fr' : Fr) : Prop := ∀ j, fr'.at j = if j = i then x else fr.at j
theorem ji {R : ab} (hR : R ≠ .fail) : ∀ (i : Nat) {fr : Fr} {x : AV} {k : Fr → ab}, (yD i).f fr x k = R → ∃ fr', FSet fr i x fr' ∧ k fr' = R
  | 0, fr, x, k, h | 1, fr, x, k, h | 2, fr, x, k, h | 3, fr, x, k, h | 4, fr, x, k, h | 5, fr, x, k, h | 6, fr, x, k, h | 7, fr, x, k, h => by
    cases fr with
    | e => exact aa hR h
    | n a b c d e f g hh r =>
      refine ⟨_, fun j => ?_, h⟩
      rcases j with _ | _ | _ | _ | _ | _ | _ | _ | j <;> rfl
  | i + 8, fr, x, k, h => by
    cases fr with
    | e => exact aa hR h
    | n a b c d e f g hh r =>
      obtain ⟨r', hr, hk⟩ := ji hR i (fr := r) h
      refine ⟨_, fun j => ?_, hk⟩
      rcases j with _ | _ | _ | _ | _ | _ | _ | _ | j
      iterate 8 rfl
      show r'.at j = if j + 8 = i + 8 then x else r.at j
      rw [hr j]
      by_cases e : j = i
      · simp [e]
      · rw [if_neg e, if_neg (by omega)]
def nth : Row → Nat → AV
  | .lf, _ => .uu
  | .nd v _ r, i => match i with | 0 => v | j + 1 => nth r j
def len : Row → Nat
  | .lf => 0
  | .nd _ _ r => len r + 1
theorem mT {R : ab} (hR : R ≠ .fail) : ∀ (i : Nat) {sk : Row} {fr : Fr} {k : AV → ab}, (vI i).get sk fr k = R → i < len sk ∧ k (nth sk i) = R
  | 0, sk, _, _, h => by cases sk <;> first | exact aa hR h | exact ⟨Nat.succ_pos _, h⟩
  | i + 1, sk, fr, _, h => by
    cases sk with
    | lf => exact aa hR h
    | nd v l r => obtain ⟨h1, h2⟩ := mT hR i (sk := r) (fr := fr) h; exact ⟨Nat.succ_lt_succ h1, h2⟩
theorem mj {R : ab} (hR : R ≠ .fail) (i : Nat) : ∀ {t : Row} {k : AV → ab}, (lget i).f t k = R → i < len t ∧ k (nth t i) = R := by
  induction i with
  | zero => intro t k h; cases t <;> first | exact aa hR h | exact ⟨Nat.succ_pos _, h⟩
  | succ i ih =>
    intro t k h
    cases t with
    | lf => exact aa hR h
    | nd v l r => obtain ⟨h1, h2⟩ := ih (t := r) h; exact ⟨Nat.succ_lt_succ h1, h2⟩
def LSet (l : Row) (i : Nat) (x : AV) (l' : Row) : Prop := i < len l ∧ len l' = len l ∧ ∀ j, nth l' j = if j = i then x else nth l j
theorem mr {R : ab} (hR : R ≠ .fail) (i : Nat) : ∀ {t : Row} {x : AV} {k : Row → ab}, (zg i).f t x k = R → ∃ t', LSet t i x t' ∧ k t' = R := by
  induction i with
  | zero =>
    intro t x k h
    cases t with
    | lf => exact aa hR h
    | nd v l r => exact ⟨.nd x .lf r, ⟨Nat.succ_pos _, rfl, fun j => by cases j <;> rfl⟩, h⟩
  | succ i ih =>
    intro t x k h
    cases t with
    | lf => exact aa hR h
    | nd v l r =>
      obtain ⟨r', ⟨h1, h2, h3⟩, hk⟩ := ih (t := r) h
      refine ⟨_, ⟨Nat.succ_lt_succ h1, congrArg (· + 1) h2, fun j => ?_⟩, hk⟩
      cases j with
      | zero => rfl
      | succ j =>
        show nth r' j = if j + 1 = i + 1 then x else nth r j
        rw [h3 j]
        by_cases e : j = i
        · simp [e]
        · rw [if_neg e, if_neg (by omega)]
theorem nT {R : ab} (hR : R ≠ .fail) (n : Nat) : ∀ {t : Row} {k : Row → ab}, (wO n).f t k = R → ∃ t', (n + len t' = len t ∧ ∀ j, nth t' j = nth t (n + j)) ∧ k t' = R := by
  induction n with
  | zero => intro t k h; exact ⟨t, ⟨Nat.zero_add _, fun j => by rw [Nat.zero_add]⟩, h⟩
  | succ n ih =>
    intro t k h
    cases t with
    | lf => exact aa hR h
    | nd v l r =>
      obtain ⟨t', ⟨h1, h2⟩, hk⟩ := ih (t := r) h
      refine ⟨t', ⟨?_, fun j => ?_⟩, hk⟩
      · show n + 1 + len t' = len r + 1; omega
      · rw [h2 j, show n + 1 + j = n + j + 1 by omega]; rfl
theorem nW {R : ab} (hR : R ≠ .fail) (n : Nat) : ∀ {t : Row} {k : Row → ab}, (a1R n).f t k = R → ∃ t', (len t' = n ∧ n ≤ len t ∧ ∀ j, j < n → nth t' j = nth t j) ∧ k t' = R := by
  induction n with
  | zero => intro t k h; exact ⟨.lf, ⟨rfl, Nat.zero_le _, fun j hj => absurd hj (by omega)⟩, h⟩
  | succ n ih =>
    intro t k h
    cases t with
    | lf => exact aa hR h
    | nd v l r =>
      obtain ⟨t', ⟨h1, h2, h3⟩, hk⟩ := ih (t := r) (k := fun r => k (.nd v .lf r)) h
      refine ⟨_, ⟨congrArg (· + 1) h1, Nat.succ_le_succ h2, fun j hj => ?_⟩, hk⟩
      cases j with
      | zero => rfl
      | succ j => exact h3 j (by omega)
noncomputable def AV.cT : AV → Bool
  | .int .. | .bool _ | .str .. => true
  | .x g _ _ _ _ => kp g
  | _ => false
theorem oq {R : ab} {v : AV} {k : Bool → ab} (h : v.plain k = R) : k v.cT = R := by
  cases v <;> first | exact h | (have h' : eK (kp _) k = R := h; rw [dH] at h'; exact h')
theorem dW {R : ab} {k : Bool → ab} : ∀ {l : Row}, gD l k = R → ∃ b, (b = true → ∀ i, i < len l → (nth l i).cT = true) ∧ k b = R
  | .lf, h => ⟨true, fun _ i hi => absurd hi (Nat.not_lt_zero _), h⟩
  | .nd v a r, h => by
    have h' : when v.cT (gD r k) (k false) = R := oq h
    rw [y9] at h'
    by_cases hv : v.cT = true
    · rw [if_pos hv] at h'
      obtain ⟨b, hb, hk⟩ := dW (l := r) h'
      refine ⟨b, fun e i hi => ?_, hk⟩
      cases i with
      | zero => exact hv
      | succ i => exact hb e i (by have : i + 1 < len r + 1 := hi; omega)
    · rw [if_neg hv] at h'; exact ⟨false, fun e => Bool.noConfusion e, h'⟩
end Go.Proofs.YtdlohaedegmiaaaGreatDoor.Ev
namespace Go.Proofs.YtdlohaedegmiaaaGreatDoor.Ev
def elc : AV → Nat → AV
  | .agg l _, j => nth l j
  | _, _ => .uu
def cellAt (z : Nat) (t : Row) (i : Nat) : AV := if z = 1 then t.at i else elc (t.at (i / z)) (i % z)
def cv : AV → Nat → AV
  | .agg l _, i => nth l i
  | v, _ => v
inductive Fits : AV → Nat → Prop
  | agg (l : Row) (n : Nat) : Fits (.agg l n) n
  | one {v : AV} (h1 : ∀ l n, v ≠ .agg l n) (h2 : ∀ t n, v ≠ .bM t n) (h3 : ∀ t a b c, v ≠ .x 0 t a b c) : Fits v 1
section
variable {M : Mem} (ok : aT M) {R : ab} (hR : R ≠ .fail)
include ok hR
theorem pA {z : Nat} {t : Row} {i : Nat} {k : AV → ab} (h : rdC M z t i k = R) : k (cellAt z t i) = R := by
  rcases ar hR h with ⟨hz, h⟩ | ⟨hz, h⟩
  · rw [an] at hz; rw [cellAt, if_pos hz]; exact ok.rg hR h
  · have hz' : ¬ z = 1 := fun e => by rw [← an, hz] at e; exact Bool.noConfusion e
    obtain ⟨l, n, hv, h⟩ := bU hR (ok.rg hR h)
    have hv' : t.at (i / z) = .agg l n := hv
    rw [cellAt, if_neg hz', hv']
    exact (mj hR _ h).2
def CSet (z : Nat) (t : Row) (i : Nat) (c : AV) (t' : Row) : Prop := ∀ j, cellAt z t' j = if j = i then c else cellAt z t j
theorem ya {z : Nat} {t : Row} {i : Nat} {c : AV} {k : Row → ab} (h : wrC M z t i c k = R) : ∃ t', CSet z t i c t' ∧ k t' = R := by
  rcases ar hR h with ⟨hz, h⟩ | ⟨hz, h⟩
  · rw [an] at hz
    obtain ⟨t', ht, hk⟩ := ok.rs hR h
    refine ⟨t', fun j => ?_, hk⟩
    rw [cellAt, cellAt, if_pos hz, if_pos hz]; exact ht j
  · have hz' : ¬ z = 1 := fun e => by rw [← an, hz] at e; exact Bool.noConfusion e
    obtain ⟨l, n, hv, h⟩ := bU hR (ok.rg hR h)
    have hv' : t.at (i / z) = .agg l n := hv
    obtain ⟨l', ⟨_, _, hl⟩, h⟩ := mr hR _ h
    obtain ⟨t', ht, hk⟩ := ok.rs hR h
    refine ⟨t', fun j => ?_, hk⟩
    rw [cellAt, cellAt, if_neg hz', if_neg hz']
    have htj : t'.at (j / z) = if j / z = i / z then .agg l' n else t.at (j / z) := ht (j / z)
    rw [htj]
    by_cases e : j / z = i / z
    · rw [if_pos e, e, hv']
      show nth l' (j % z) = if j = i then c else nth l (j % z)
      rw [hl (j % z)]
      by_cases e2 : j = i
      · subst e2; rw [if_pos rfl]; exact if_pos rfl
      · have e3 : ¬ j % z = i % z := fun e3 => e2 (by rw [← Nat.div_add_mod j z, ← Nat.div_add_mod i z, e, e3])
        rw [if_neg e2]; exact if_neg e3
    · have e2 : ¬ j = i := fun e2 => e (by rw [e2])
      rw [if_neg e, if_neg e2]
theorem a0N {z : Nat} {t : Row} (n : Nat) : ∀ {o : Nat} {k : Row → ab}, (getC M z n).f t o k = R → ∃ l, (∀ j, j < n → nth l j = cellAt z t (o + j)) ∧ k l = R := by
  induction n with
  | zero => intro o k h; exact ⟨.lf, fun j hj => absurd hj (Nat.not_lt_zero _), h⟩
  | succ n ih =>
    intro o k h
    have h1 := pA ok hR (k := fun v => (getC M z n).f t (Nat.succ o) fun r => k (.nd v .lf r)) h
    obtain ⟨l, hl, hk⟩ := ih h1
    refine ⟨_, fun j hj => ?_, hk⟩
    cases j with
    | zero => rfl
    | succ j => show nth l j = _; rw [hl j (by omega)]; congr 1; omega
theorem mI {z : Nat} (n : Nat) : ∀ {l t : Row} {o : Nat} {k : Row → ab}, (a2d M z n).f l t o k = R → ∃ t', (∀ j, cellAt z t' j = if o ≤ j ∧ j < o + n then nth l (j - o) else cellAt z t j) ∧ k t' = R := by
  induction n with
  | zero => intro l t o k h; exact ⟨t, fun j => by rw [if_neg (by omega)], h⟩
  | succ n ih =>
    intro l t o k h
    cases l with
    | lf => exact aa hR h
    | nd v a r =>
      obtain ⟨t1, ht1, h⟩ := ya ok hR (k := fun t => (a2d M z n).f r t (Nat.succ o) k) h
      obtain ⟨t', ht', hk⟩ := ih h
      refine ⟨t', fun j => ?_, hk⟩
      rw [ht' j, ht1 j]
      by_cases e : j = o
      · have e1 : ¬ (Nat.succ o ≤ j ∧ j < Nat.succ o + n) := by omega
        have e2 : o ≤ j ∧ j < o + (n + 1) := by omega
        rw [if_neg e1, if_pos e, if_pos e2, e, Nat.sub_self]; rfl
      · by_cases e1 : Nat.succ o ≤ j ∧ j < Nat.succ o + n
        · have e2 : o ≤ j ∧ j < o + (n + 1) := by omega
          rw [if_pos e1, if_pos e2, show j - o = (j - Nat.succ o) + 1 by omega]; rfl
        · have e2 : ¬ (o ≤ j ∧ j < o + (n + 1)) := by omega
          rw [if_neg e1, if_neg e, if_neg e2]
omit ok hR in
theorem oS {z o j : Nat} (hz : 0 < z) (ho : o % z = 0) : j / z = o / z ↔ o ≤ j ∧ j < o + z := by
  have h1 : o / z * z = o := Nat.div_mul_cancel (Nat.dvd_of_mod_eq_zero ho)
  constructor
  · intro e
    have h2 := Nat.div_add_mod j z
    have h3 := Nat.mod_lt j hz
    rw [e, Nat.mul_comm, h1] at h2; omega
  · intro ⟨a, b⟩
    exact Nat.div_eq_of_lt_le (by omega) (by rw [Nat.succ_mul]; omega)
omit ok hR in
theorem a1T {z o j : Nat} (ho : o % z = 0) (h : o ≤ j ∧ j < o + z) : j % z = j - o := by
  obtain ⟨d, rfl⟩ : ∃ d, j = o + d := ⟨j - o, by omega⟩
  rw [Nat.add_mod, ho, Nat.zero_add, Nat.mod_mod, Nat.mod_eq_of_lt (by omega)]; omega
theorem a4Y {ag : Bool} {sz z : Nat} {t : Row} {o : Nat} {k : AV → ab} (h : rdV M ag sz z t o k = R) :
    ∃ v, (∀ i, i < sz → cv v i = cellAt z t (o + i) ∨ (ag = false)) ∧ ((ag = true ∧ ∃ l, v = .agg l sz) ∨ (ag = false ∧ sz = 1 ∧ v = cellAt z t o)) ∧ k v = R := by
  cases ag with
  | false =>
    obtain ⟨hs, h⟩ := ah hR h
    rw [an] at hs
    exact ⟨_, fun _ _ => .inr rfl, .inr ⟨rfl, hs, rfl⟩, pA ok hR h⟩
  | true =>
    rcases ar hR h with ⟨hs, h⟩ | ⟨hs, h⟩
    · rw [an] at hs
      have g := pA ok hR h
      refine ⟨_, fun i hi => .inl ?_, .inl ⟨rfl, .nd (cellAt z t o) .lf .lf, by rw [hs]⟩, g⟩
      have : i = 0 := by omega
      subst this; rfl
    · rcases ar hR h with ⟨hz, h⟩ | ⟨hz, h⟩
      · rw [aG, an, an] at hz
        obtain ⟨hzs, ho⟩ := hz
        obtain ⟨l, n, hv, g⟩ := bU hR (ok.rg hR h)
        obtain ⟨hn, g⟩ := ah hR g
        rw [an] at hn
        refine ⟨.agg l n, fun i hi => .inl ?_, .inl ⟨rfl, l, by rw [hn]⟩, g⟩
        have hz1 : ¬ z = 1 := fun e => by rw [hzs] at e; rw [← an, hs] at e; exact Bool.noConfusion e
        have ho' : o % z = 0 := ho
        have hv' : t.at (o / z) = .agg l n := hv
        have hd : (o + i) / z = o / z := (oS (by omega) ho').2 ⟨by omega, by omega⟩
        have hm : (o + i) % z = i := by rw [a1T ho' ⟨by omega, by omega⟩]; omega
        rw [cellAt, if_neg hz1, hd, hm, hv']; rfl
      · obtain ⟨l, hl, h⟩ := a0N ok hR _ h
        exact ⟨.agg l sz, fun i hi => .inl (hl i hi), .inl ⟨rfl, _, rfl⟩, h⟩
theorem jV {v : AV} {k : AV → Bool → ab} (h : wm v k = R) : ∃ c f, Fits v 1 ∧ c = cv v 0 ∧ (f = true → c.cT = true) ∧ k c f = R := by
  have _ := ok
  cases v with
  | int k n => exact ⟨_, _, .one (by simp) (by simp) (by simp), rfl, fun _ => rfl, h⟩
  | bool b => exact ⟨_, _, .one (by simp) (by simp) (by simp), rfl, fun _ => rfl, h⟩
  | str s n => exact ⟨_, _, .one (by simp) (by simp) (by simp), rfl, fun _ => rfl, h⟩
  | ptr b o => exact ⟨_, _, .one (by simp) (by simp) (by simp), rfl, fun e => Bool.noConfusion e, h⟩
  | ms b o n z => exact ⟨_, _, .one (by simp) (by simp) (by simp), rfl, fun e => Bool.noConfusion e, h⟩
  | vs t o n z => exact ⟨_, _, .one (by simp) (by simp) (by simp), rfl, fun e => Bool.noConfusion e, h⟩
  | agg l n =>
    obtain ⟨hn, h⟩ := ah hR h
    rw [an] at hn; subst hn
    have g := (mj hR 0 h).2
    exact ⟨_, _, .agg l 1, rfl, fun e => e, oq g⟩
  | bM t n => exact aa hR h
  | x g t a b c =>
    obtain ⟨hg, h⟩ := ah hR h
    rw [aK] at hg; rw [dH] at h
    exact ⟨_, _, .one (by simp) (by simp) (by intro _ _ _ _ e; injection e with e; omega), rfl, fun e => e, h⟩
theorem yb {sz z : Nat} {t : Row} {o : Nat} {v : AV} {k : Row → Bool → ab} (h : wrV M sz z t o v k = R) :
    ∃ t' f, Fits v sz ∧ (∀ j, cellAt z t' j = if o ≤ j ∧ j < o + sz then cv v (j - o) else cellAt z t j) ∧ (f = true → ∀ i, i < sz → (cv v i).cT = true ∨ ∃ l n, v = .agg l n ∧ len l ≤ i) ∧ k t' f = R := by
  rcases ar hR h with ⟨hs, g⟩ | ⟨hs, g⟩
  · rw [an] at hs
    obtain ⟨c, f, hf, rfl, hp, g⟩ := jV ok hR g
    obtain ⟨t', ht, g⟩ := ya ok hR g
    subst hs
    refine ⟨t', f, hf, fun j => ?_, fun e i hi => .inl ?_, g⟩
    · rw [ht j]
      by_cases e : j = o
      · have e2 : o ≤ j ∧ j < o + 1 := by omega
        rw [if_pos e, if_pos e2, show j - o = 0 by omega]
      · have e2 : ¬ (o ≤ j ∧ j < o + 1) := by omega
        rw [if_neg e, if_neg e2]
    · have : i = 0 := by omega
      subst this; exact hp e
  · obtain ⟨l, n, rfl, g⟩ := bU hR g
    obtain ⟨hn, g⟩ := ah hR g
    obtain ⟨h1, g⟩ := ah hR g
    rw [aK] at h1
    obtain ⟨f, hf, g⟩ := dW g
    rw [an] at hn; subst hn
    have hfp : f = true → ∀ i, i < n → (cv (.agg l n) i).cT = true ∨ ∃ l' n', AV.agg l n = .agg l' n' ∧ len l' ≤ i := fun e i hi => by
      by_cases hl : i < len l
      · exact .inl (hf e i hl)
      · exact .inr ⟨l, n, rfl, by omega⟩
    rcases ar hR g with ⟨hz, g⟩ | ⟨hz, g⟩
    · rw [aG, an, an] at hz
      obtain ⟨hzn, ho⟩ := hz
      have ho : o % z = 0 := ho
      obtain ⟨t', ht, g2⟩ := ok.rs hR g
      subst hzn
      have hz1 : ¬ z = 1 := fun e => by rw [← an, hs] at e; exact Bool.noConfusion e
      refine ⟨t', f, .agg l z, fun j => ?_, hfp, g2⟩
      have htj : t'.at (j / z) = if j / z = o / z then .agg l z else t.at (j / z) := ht (j / z)
      rw [cellAt, cellAt, if_neg hz1, if_neg hz1, htj]
      by_cases e : j / z = o / z
      · have e2 := (oS (z := z) (by omega) ho).1 e
        have e3 := a1T ho e2
        rw [if_pos e, if_pos e2, ← e3]; rfl
      · have e2 : ¬ (o ≤ j ∧ j < o + z) := fun e2 => e ((oS (by omega) ho).2 e2)
        rw [if_neg e, if_neg e2]
    · obtain ⟨t', ht, g⟩ := mI ok hR _ g
      exact ⟨t', f, .agg l n, ht, hfp, g⟩
theorem oQ (n : Nat) : ∀ {s : Row} {o : Nat} {d : Row} {p : Nat} {k : Row → ab}, (cp M n).f s o d p k = R → ∃ d', (∀ j, d'.at j = if p ≤ j ∧ j < p + n then s.at (o + (j - p)) else d.at j) ∧ k d' = R := by
  induction n with
  | zero => intro s o d p k h; exact ⟨d, fun j => by rw [if_neg (by omega)], h⟩
  | succ n ih =>
    intro s o d p k h
    have h1 := ok.rg hR (k := fun v => M.rs.f d p v fun d' => (cp M n).f s (Nat.succ o) d' (Nat.succ p) k) h
    obtain ⟨d1, hd1, h2⟩ := ok.rs hR h1
    obtain ⟨d', hd', hk⟩ := ih h2
    refine ⟨d', fun j => ?_, hk⟩
    have hd1' : d1.at j = if j = p then s.at o else d.at j := hd1 j
    rw [hd' j, hd1']
    by_cases e : j = p
    · have e1 : ¬ (Nat.succ p ≤ j ∧ j < Nat.succ p + n) := by omega
      have e2 : p ≤ j ∧ j < p + (n + 1) := by omega
      rw [if_neg e1, if_pos e, if_pos e2, e, Nat.sub_self, Nat.add_zero]
    · by_cases e1 : Nat.succ p ≤ j ∧ j < Nat.succ p + n
      · have e2 : p ≤ j ∧ j < p + (n + 1) := by omega
        rw [if_pos e1, if_pos e2]; congr 1; omega
      · have e2 : ¬ (p ≤ j ∧ j < p + (n + 1)) := by omega
        rw [if_neg e1, if_neg e, if_neg e2]
theorem a50 {v : AV} (n : Nat) : ∀ {d : Row} {p : Nat} {k : Row → ab}, (rep M v n).f d p k = R → ∃ d', (∀ j, d'.at j = if p ≤ j ∧ j < p + n then v else d.at j) ∧ k d' = R := by
  induction n with
  | zero => intro d p k h; exact ⟨d, fun j => by rw [if_neg (by omega)], h⟩
  | succ n ih =>
    intro d p k h
    obtain ⟨d1, hd1, h2⟩ := ok.rs hR (k := fun d' => (rep M v n).f d' (Nat.succ p) k) h
    obtain ⟨d', hd', hk⟩ := ih h2
    refine ⟨d', fun j => ?_, hk⟩
    have hd1' : d1.at j = if j = p then v else d.at j := hd1 j
    rw [hd' j, hd1']
    by_cases e : j = p
    · have e1 : ¬ (Nat.succ p ≤ j ∧ j < Nat.succ p + n) := by omega
      have e2 : p ≤ j ∧ j < p + (n + 1) := by omega
      rw [if_neg e1, if_pos e, if_pos e2]
    · by_cases e1 : Nat.succ p ≤ j ∧ j < Nat.succ p + n
      · have e2 : p ≤ j ∧ j < p + (n + 1) := by omega
        rw [if_pos e1, if_pos e2]
      · have e2 : ¬ (p ≤ j ∧ j < p + (n + 1)) := by omega
        rw [if_neg e1, if_neg e, if_neg e2]
theorem a2e {z : Nat} (n : Nat) : ∀ {l t : Row} {e : Nat} {k : Row → ab}, (putE M z n).f l t e k = R → ∃ t', (∀ j, (e ≤ j ∧ j < e + n → ∃ a, t'.at j = .agg a z ∧ ∀ i, i < z → nth a i = nth l ((j - e) * z + i)) ∧ (¬ (e ≤ j ∧ j < e + n) → t'.at j = t.at j)) ∧ k t' = R := by
  induction n with
  | zero => intro l t e k h; exact ⟨t, fun j => ⟨fun hj => absurd hj (by omega), fun _ => rfl⟩, h⟩
  | succ n ih =>
    intro l t e k h
    obtain ⟨a, ⟨_, _, ha⟩, h⟩ := nW hR z (k := fun a => (wO z).f l fun r => M.rs.f t e (.agg a z) fun t => (putE M z n).f r t (Nat.succ e) k) h
    obtain ⟨r, ⟨_, hr⟩, h⟩ := nT hR z h
    obtain ⟨t1, ht1, h⟩ := ok.rs hR h
    obtain ⟨t', ht', hk⟩ := ih h
    refine ⟨t', fun j => ⟨fun hj => ?_, fun hj => ?_⟩, hk⟩
    · have ht1' : t1.at j = if j = e then .agg a z else t.at j := ht1 j
      by_cases e1 : j = e
      · refine ⟨a, ?_, fun i hi => ?_⟩
        · rw [(ht' j).2 (by omega), ht1', if_pos e1]
        · rw [ha i hi, e1, Nat.sub_self, Nat.zero_mul, Nat.zero_add]
      · obtain ⟨b, hb, hb2⟩ := (ht' j).1 (by omega)
        refine ⟨b, hb, fun i hi => ?_⟩
        rw [hb2 i hi, hr, show j - e = (j - Nat.succ e) + 1 by omega, Nat.succ_mul]; congr 1; omega
    · have ht1' : t1.at j = if j = e then .agg a z else t.at j := ht1 j
      rw [(ht' j).2 (by omega), ht1', if_neg (by omega)]
end
theorem yn {z : Nat} (hz : 0 < z) {s d : Row} {o p n : Nat} (h : ∀ j, j < n → d.at (p + j) = s.at (o + j)) {i : Nat} (hi : i < n * z) : cellAt z d (p * z + i) = cellAt z s (o * z + i) := by
  by_cases h1 : z = 1
  · subst h1; rw [cellAt, cellAt, if_pos rfl, if_pos rfl, Nat.mul_one, Nat.mul_one]; exact h i (by omega)
  · have hd : i / z < n := (Nat.div_lt_iff_lt_mul hz).2 hi
    rw [cellAt, cellAt, if_neg h1, if_neg h1, Nat.mul_comm p z, Nat.mul_comm o z, Nat.mul_add_div hz, Nat.mul_add_div hz, Nat.mul_add_mod, Nat.mul_add_mod, h _ hd]
theorem kH {z : Nat} (hz : 0 < z) {s d : Row} {i : Nat} (h : d.at (i / z) = s.at (i / z)) : cellAt z d i = cellAt z s i := by
  by_cases h1 : z = 1
  · subst h1; rw [cellAt, cellAt, if_pos rfl, if_pos rfl]; rw [Nat.div_one] at h; exact h
  · rw [cellAt, cellAt, if_neg h1, if_neg h1, h]
theorem wA (v : AV) (n : Nat) : ∀ j, j + 1 < 2 ^ n → (Tr.full v n).at j = v := by
  induction n with
  | zero => intro j hj; exact absurd hj (by rw [Nat.pow_zero]; omega)
  | succ n ih =>
    intro j hj
    have hp : 2 ^ (n + 1) = 2 * 2 ^ n := by rw [Nat.pow_succ, Nat.mul_comm]
    cases j with
    | zero => rfl
    | succ j =>
      show (if j % 2 = 0 then (Tr.full v n).get .uu (j / 2) else (Tr.full v n).get .uu (j / 2)) = v
      rw [ite_self]
      exact ih (j / 2) (by omega)
theorem qP (n : Nat) : n < 2 ^ (depth n) := by
  have h : n + 1 < 2 ^ (Nat.log2 (n + 1) + 1) := Nat.lt_log2_self
  exact Nat.lt_of_succ_lt h
structure Mp where
  aF : Nat
  base : Nat
  size : Nat
abbrev Mu := Nat → Option Mp
def bz : Mu := fun _ => none
noncomputable def AV.aS : AV → Bool
  | .int .. | .bool _ | .str .. => true
  | .x g _ _ _ _ => g == 0 || kp g
  | _ => false
inductive ae (w : World) (F : Nat → Prop) : Mu → AV → Value → Prop
  | int {μ : Mu} {k n : Nat} (h : n < md k) : ae w F μ (.int k n) (.int (kd k) ((kd k).wrap n))
  | bool {μ : Mu} (b : Bool) : ae w F μ (.bool b) (.bool b)
  | str {μ : Mu} {s : ByteArray} : ae w F μ (.str (aI s.data.toList) s.size) (.string s)
  | ptr {μ : Mu} {b o : Nat} {m : Mp} (h : μ b = some m) : ae w F μ (.ptr b o) (.pointer (some ⟨m.aF, m.base + o, none⟩))
  | ms {μ : Mu} {b o n z c : Nat} {m : Mp} (h : μ b = some m) (hc : n ≤ c) (hs : m.base + o + c * z ≤ m.size) : ae w F μ (.ms b o n z) (.slice (some ⟨m.aF, m.base + o, none⟩) n c)
  | pN {μ : Mu} {b o z : Nat} {a : Addr} : ae w F μ (.ms b o 0 z) (.slice (some a) 0 0)
  | vs {μ : Mu} {t : Row} {o n z B off c : Nat} (us : Nat → Value) (hF : F B) (hc : n ≤ c) (hu : ∀ i, i < n * z → w.cell? ⟨B, off + i, none⟩ = some (us i)) (h1 : ∀ i, i < n * z → (us i).oneCell' = true) (h : ∀ i, i < n * z → ae w F bz (cellAt z t (o * z + i)) (us i)) : ae w F μ (.vs t o n z) (.slice (some ⟨B, off, none⟩) n c)
  | pP {μ : Mu} {t : Row} {o z c : Nat} {a : Addr} : ae w F μ (.vs t o 0 z) (.slice (some a) 0 c)
  | agg {μ : Mu} {l : Row} {n : Nat} {cs : Array Value} (us : Nat → Value) (hs : cs.size = n) (hu : ∀ i, i < n → cs[i]? = some (us i)) (h1 : ∀ i, i < n → (us i).oneCell' = true) (h : ∀ i, i < n → ae w F μ (nth l i) (us i)) : ae w F μ (.agg l n) (.agg cs)
  | bM {μ : Mu} {t : Row} {n : Nat} {vs : Array Value} (us : Nat → Value) (hl : len t = vs.size) (hu : ∀ i, i < vs.size → vs[i]? = some (us i)) (h : ∀ i, i < vs.size → ae w F μ (nth t i) (us i)) : ae w F μ (.bM t n) (.tuple vs)
  | uu {μ : Mu} {t : Row} {a b c : Nat} (v : Value) : ae w F μ (.x 0 t a b c) v
  | gV {μ : Mu} {t : Row} {o n z B off : Nat} (us : Nat → Value) (hF : F B) (hu : ∀ i, i < n → w.cell? ⟨B, off + i, none⟩ = some (us i)) (h1 : ∀ i, i < n → (us i).oneCell' = true) (h : ∀ i, i < n → ae w F bz (cellAt z t (o + i)) (us i)) : ae w F μ (.x 1 t o n z) (.pointer (some ⟨B, off, none⟩))
  | fn {μ : Mu} {t : Row} {f n m : Nat} {fs cs : Array Value} (us : Nat → Value) (h1 : fs.size = n) (h2 : cs.size = m) (h3 : len t = n + m) (hu : ∀ i, i < n → fs[i]? = some (us i)) (hv : ∀ i, i < m → cs[i]? = some (us (n + i))) (h : ∀ i, i < n + m → ae w F μ (nth t i) (us i)) : ae w F μ (.x 3 t f n m) (.func (.func f) fs cs)
  | map {μ : Mu} {t : Row} {b p c : Nat} {m : Mp} (h : μ b = some m) : ae w F μ (.x 4 t b p c) (.map (some m.aF))
  | yld {μ : Mu} {t : Row} {b p c : Nat} {m : Mp} (h : μ b = some m) : ae w F μ (.x 5 t b p c) (.func (.yield m.aF) #[] #[])
  | emp {μ : Mu} {t : Row} {a b c : Nat} {p : Addr} : ae w F μ (.x 6 t a b c) (.slice (some p) 0 0)
  | mz {μ : Mu} {t : Row} {a b c : Nat} : ae w F μ (.x 7 t a b c) (.pointer none)
  | ju {μ : Mu} {t : Row} {a b c : Nat} : ae w F μ (.x 8 t a b c) (.slice none 0 0)
  | mw {μ : Mu} {t : Row} {a b c : Nat} : ae w F μ (.x 9 t a b c) .nilFunc
  | my {μ : Mu} {t : Row} {a b c : Nat} : ae w F μ (.x 10 t a b c) (.map none)
  | la {μ : Mu} {t : Row} {a b c : Nat} : ae w F μ (.x 11 t a b c) .nilIface
  | iface {μ : Mu} {t : Row} {a b c : Nat} {v : Value} (h : ae w F μ (nth t 0) v) : ae w F μ (.x 12 t a b c) (.iface a v)
theorem ae.mono {w w' : World} {F F' : Nat → Prop} (hw : ∀ B, F B → w'.heap[B]? = w.heap[B]?) (hF : ∀ B, F B → F' B) {μ : Mu} {a : AV} {v : Value} (h : ae w F μ a v) :
    ∀ {μ' : Mu}, (∀ b m, μ b = some m → μ' b = some m) → ae w' F' μ' a v := by
  have cell : ∀ B off, F B → w'.cell? ⟨B, off, none⟩ = w.cell? ⟨B, off, none⟩ := by
    intro B off hB
    simp only [World.cell?, hw B hB]
  induction h with
  | int h => intro _ _; exact .int h
  | bool b => intro _ _; exact .bool b
  | str => intro _ _; exact .str
  | ptr h => intro _ hm; exact .ptr (hm _ _ h)
  | ms h hc hs => intro _ hm; exact .ms (hm _ _ h) hc hs
  | pN => intro _ _; exact .pN
  | vs us hf hc hu h1 _ ih => intro _ _; exact .vs us (hF _ hf) hc (fun i hi => (cell _ _ hf).trans (hu i hi)) h1 fun i hi => ih i hi (fun _ _ h => h)
  | pP => intro _ _; exact .pP
  | agg us hs hu h1 _ ih => intro _ hm; exact .agg us hs hu h1 fun i hi => ih i hi hm
  | bM us hs hu _ ih => intro _ hm; exact .bM us hs hu fun i hi => ih i hi hm
  | uu v => intro _ _; exact .uu v
  | gV us hf hu h1 _ ih => intro _ _; exact .gV us (hF _ hf) (fun i hi => (cell _ _ hf).trans (hu i hi)) h1 fun i hi => ih i hi (fun _ _ h => h)
  | fn us h1 h2 h3 hu hv _ ih => intro _ hm; exact .fn us h1 h2 h3 hu hv fun i hi => ih i hi hm
  | map h => intro _ hm; exact .map (hm _ _ h)
  | yld h => intro _ hm; exact .yld (hm _ _ h)
  | emp => intro _ _; exact .emp
  | mz => intro _ _; exact .mz
  | ju => intro _ _; exact .ju
  | mw => intro _ _; exact .mw
  | my => intro _ _; exact .my
  | la => intro _ _; exact .la
  | iface _ ih => intro _ hm; exact .iface (ih hm)
theorem ae.free {w : World} {F : Nat → Prop} {μ : Mu} {a : AV} {v : Value} (h : ae w F μ a v) (hf : a.aS = true) (μ' : Mu) : ae w F μ' a v := by
  cases h with
  | int h => exact .int h
  | bool b => exact .bool b
  | str => exact .str
  | uu v => exact .uu v
  | mz => exact .mz
  | ju => exact .ju
  | mw => exact .mw
  | my => exact .my
  | la => exact .la
  | emp => exact .emp
  | _ => exact Bool.noConfusion hf
theorem bJ {a : AV} (h : a.cT = true) : a.aS = true := by
  cases a <;> first | rfl | exact h | (simp only [AV.cT] at h; simp [AV.aS, h]) | exact Bool.noConfusion h
theorem mA : ∀ {l : Row} {i : Nat}, len l ≤ i → nth l i = .uu
  | .lf, i, _ => by cases i <;> rfl
  | .nd v a r, 0, h => absurd h (Nat.not_succ_le_zero _)
  | .nd v a r, i + 1, h => mA (l := r) (Nat.le_of_succ_le_succ h)
def gY (P : Program) (w : World) (F : Nat → Prop) (μ : Mu) (vars : Nat → List Nat) (st f i : Nat) (fr : Fr) (L : Loop) : Prop :=
  (∃ fn c ps a b, P.funcs[f]? = some fn ∧ fn.body = some c ∧ cf i c = some (ps, a, b) ∧ L.params.toList = ps ∧ L.assign = a ∧ L.body = b) ∧ (vars f).headD 0 ≤ L.tmps.size ∧
  (∀ t j, idxOf t (vars f).tail 0 = .f j → ae w F μ (fr.at j) (L.tmps.getD t undef)) ∧
  (match st with
   | 0 => L.state = .ready ∧ L.pending = none
   | 1 => L.state = .busy
   | 2 => L.state = .done ∧ L.pending = some .ret
   | n + 3 => L.state = .done ∧ ((∃ id, n = 2 * id ∧ L.pending = some (.exit id)) ∨ (∃ l, n = 2 * l + 1 ∧ L.pending = some (.goto l))))
structure Vs where
  vars : Nat → List Nat
  nG : Nat
  G : World → Prop
  keep : ∀ w w', G w → (∀ B, B < nG → w'.heap[B]? = w.heap[B]?) → G w'
instance : CoeFun Vs fun _ => Nat → List Nat := ⟨Vs.vars⟩
structure Env where
  P : Program
  vs : Vs
abbrev Env.vars (V : Env) : Nat → List Nat := V.vs.vars
def Env.pL (V : Env) (w : World) (F : Nat → Prop) : Prop := V.vs.G w ∧ ∀ B, B < V.vs.nG → F B
theorem Env.pL.mono {V : Env} {w w' : World} {F F' : Nat → Prop} (h : V.pL w F) (hk : ∀ B, F B → w'.heap[B]? = w.heap[B]?) (hF : ∀ B, F B → F' B) : V.pL w' F' :=
  ⟨V.vs.keep w w' h.1 fun B hB => hk B (h.2 B hB), fun B hB => hF B (h.2 B hB)⟩
def dN (V : Env) (w : World) (F : Nat → Prop) (μ : Mu) (b : Nat) : aX → Prop
  | .dead => True
  | .fwd _ => False
  | .row rw fl z sz t => ∃ m c T fz, μ b = some m ∧ w.heap[m.aF]? = some (.cells c T fz) ∧ c.size = m.size ∧ (∀ i, i < sz → ∃ u, c[m.base + i]? = some u ∧ u.oneCell' = true ∧ ae w F μ (cellAt z t i) u) ∧
      (fl = true → ∀ i, i < sz → (cellAt z t i).aS = true) ∧ (rw = true → (fz.1 = fz.2 ∨ c.size ≤ fz.1) ∧ ¬ F m.aF) ∧ (rw = false → F m.aF)
  | .map n t => ∃ m es clk, μ b = some m ∧ w.heap[m.aF]? = some (.map es clk) ∧ ¬ F m.aF ∧ es.size = n ∧ ∀ i, i < n → ∃ e, es[i]? = some e ∧ ae w F μ (t.at (2 * i)) e.key ∧ ae w F μ (t.at (2 * i + 1)) e.val
  | .loop st f i fr => ∃ m L, μ b = some m ∧ w.heap[m.aF]? = some (.loop L) ∧ ¬ F m.aF ∧ gY V.P w F μ V.vars st f i fr L
def aX.wr : aX → Prop
  | .row rw _ _ _ _ => rw = true
  | .map _ _ | .loop _ _ _ _ => True
  | _ => False
def WB (h : Hp) (μ : Mu) (B : Nat) : Prop := ∃ b m, (h.at b).wr ∧ μ b = some m ∧ m.aF = B
def Own (h : Hp) (μ : Mu) (B : Nat) : Prop := ∃ b m, (h.at b).wr ∧ b ∉ h.pr ∧ μ b = some m ∧ m.aF = B
theorem Own.wb {h : Hp} {μ : Mu} {B : Nat} : Own h μ B → WB h μ B := fun ⟨b, m, hw, _, hm, hB⟩ => ⟨b, m, hw, hm, hB⟩
structure au (V : Env) (μ : Mu) (F : Nat → Prop) (h : Hp) (w : World) : Prop where
  aF : ∀ b, dN V w F μ b (h.at b)
  dw : ∀ b b' m m', (h.at b).wr → (h.at b').wr → b ≠ b' → μ b = some m → μ b' = some m' → m.aF ≠ m'.aF
  et : ∀ b m, μ b = some m → b < h.nx ∧ m.aF < w.heap.size
  fN : ∀ B, F B → B < w.heap.size
  jk : V.pL w F
theorem au.vq {V : Env} {μ : Mu} {F : Nat → Prop} {h : Hp} {w : World} (H : au V μ F h w) {B : Nat} (hB : WB h μ B) : ¬ F B := by
  obtain ⟨b, m, hw, hm, rfl⟩ := hB
  have hb := H.aF b
  revert hw hb
  generalize h.at b = X
  intro hw hb
  cases X with
  | dead => exact hw.elim
  | fwd i => exact hw.elim
  | row rw fl z sz t =>
    obtain ⟨m', c, T, fz, hm', _, _, _, _, h6, _⟩ := hb
    rw [hm] at hm'; cases hm'
    exact (h6 hw).2
  | map n t => obtain ⟨m', _, _, hm', _, h3, _⟩ := hb; rw [hm] at hm'; cases hm'; exact h3
  | loop st f i fr => obtain ⟨m', _, hm', _, h3, _⟩ := hb; rw [hm] at hm'; cases hm'; exact h3
def bA (w w' : World) : Prop := (w'.os, w'.tape) = (w.os, w.tape) ∧ w'.output = w.output
theorem bA.refl (w : World) : bA w w := ⟨rfl, rfl⟩
theorem bA.trans {a b c : World} (h : bA a b) (k : bA b c) : bA a c := ⟨k.1.trans h.1, k.2.trans h.2⟩
structure Ext (μ : Mu) (F : Nat → Prop) (h : Hp) (w : World) (μ' : Mu) (F' : Nat → Prop) (h' : Hp) (w' : World) : Prop where
  mu : ∀ b m, μ b = some m → μ' b = some m
  fr : ∀ B, F B → F' B
  size : w.heap.size ≤ w'.heap.size
  keep : ∀ B, B < w.heap.size → ¬ Own h μ B → w'.heap[B]? = w.heap[B]?
  own : ∀ B, Own h' μ' B → w.heap.size ≤ B ∨ Own h μ B
  wb : ∀ B, WB h' μ' B → w.heap.size ≤ B ∨ WB h μ B
  iq : ∀ B, F' B → F B ∨ w.heap.size ≤ B ∨ WB h μ B
  eW : ∀ b m, μ' b = some m → μ b = some m ∨ (μ b = none ∧ (w.heap.size ≤ m.aF ∨ Own h μ m.aF))
  nx : h.nx ≤ h'.nx
  pr : h'.pr = h.pr
  rb : h'.rb = h.rb
  io : bA w w'
theorem Ext.refl (μ : Mu) (F : Nat → Prop) (h : Hp) (w : World) : Ext μ F h w μ F h w :=
  ⟨fun _ _ h => h, fun _ h => h, Nat.le_refl _, fun _ _ _ => rfl, fun _ h => .inr h, fun _ h => .inr h, fun _ h => .inl h, fun _ _ h => .inl h, Nat.le_refl _, rfl, rfl, .refl _⟩
theorem Ext.trans {μ μ₁ μ₂ : Mu} {F F₁ F₂ : Nat → Prop} {h h₁ h₂ : Hp} {w w₁ w₂ : World} (a : Ext μ F h w μ₁ F₁ h₁ w₁) (b : Ext μ₁ F₁ h₁ w₁ μ₂ F₂ h₂ w₂) : Ext μ F h w μ₂ F₂ h₂ w₂ where
  mu := fun x m hm => b.mu x m (a.mu x m hm)
  fr := fun B hB => b.fr B (a.fr B hB)
  size := Nat.le_trans a.size b.size
  keep := fun B hB ho => (b.keep B (Nat.lt_of_lt_of_le hB a.size) fun h1 => (a.own B h1).elim (fun h => absurd hB (Nat.not_lt.2 h)) ho).trans (a.keep B hB ho)
  own := fun B hB => (b.own B hB).elim (fun h => .inl (Nat.le_trans a.size h)) (a.own B)
  wb := fun B hB => (b.wb B hB).elim (fun h => .inl (Nat.le_trans a.size h)) (a.wb B)
  iq := fun B hB => (b.iq B hB).elim (a.iq B) fun h => h.elim (fun h => .inr (.inl (Nat.le_trans a.size h))) fun h => .inr ((a.wb B h))
  eW := fun x m hm => by
    rcases b.eW x m hm with h1 | ⟨h0, h1⟩
    · exact a.eW x m h1
    · have hn : μ x = none := by
        cases hx : μ x with
        | none => rfl
        | some y => rw [a.mu x y hx] at h0; cases h0
      exact .inr ⟨hn, h1.elim (fun h => .inl (Nat.le_trans a.size h)) fun h => a.own _ h⟩
  nx := Nat.le_trans a.nx b.nx
  pr := b.pr.trans a.pr
  rb := b.rb.trans a.rb
  io := a.io.trans b.io
theorem Ext.same {V : Env} {μ μ' : Mu} {F F' : Nat → Prop} {h h' : Hp} {w w' : World} (H : au V μ F h w) (e : Ext μ F h w μ' F' h' w') : ∀ B, F B → w'.heap[B]? = w.heap[B]? :=
  fun B hB => e.keep B (H.fN B hB) fun ho => H.vq ho.wb hB
theorem ae.ext {V : Env} {μ μ' : Mu} {F F' : Nat → Prop} {h h' : Hp} {w w' : World} (H : au V μ F h w) (e : Ext μ F h w μ' F' h' w') {a : AV} {v : Value} (hc : ae w F μ a v) : ae w' F' μ' a v :=
  hc.mono (e.same H) e.fr e.mu
section
variable {V : Env} {μ μ' : Mu} {F F' : Nat → Prop} {h h' : Hp} {w w' : World}
theorem gY.mono {P : Program} {vars : Nat → List Nat} (hw : ∀ B, F B → w'.heap[B]? = w.heap[B]?) (hF : ∀ B, F B → F' B) (hm : ∀ b m, μ b = some m → μ' b = some m) {st f i : Nat} {fr : Fr} {L : Loop}
    (H : gY P w F μ vars st f i fr L) : gY P w' F' μ' vars st f i fr L :=
  ⟨H.1, H.2.1, fun t j e => (H.2.2.1 t j e).mono hw hF hm, H.2.2.2⟩
theorem dN.keep (hw : ∀ B, F B → w'.heap[B]? = w.heap[B]?) (hF : ∀ B, F B → F' B) (hm : ∀ b m, μ b = some m → μ' b = some m) {b : Nat} {X : aX}
    (hk : ∀ m, μ b = some m → w'.heap[m.aF]? = w.heap[m.aF]?) (hn : ∀ m, μ b = some m → X.wr → ¬ F m.aF → ¬ F' m.aF) (H : dN V w F μ b X) : dN V w' F' μ' b X := by
  cases X with
  | dead => exact trivial
  | fwd i => exact H.elim
  | row rw fl z sz t =>
    obtain ⟨m, c, T, fz, h1, h2, h3, h4, h5, h6, h7⟩ := H
    exact ⟨m, c, T, fz, hm _ _ h1, (hk m h1).trans h2, h3, fun i hi => let ⟨u, hu, h1, hc⟩ := h4 i hi; ⟨u, hu, h1, hc.mono hw hF hm⟩, h5, fun e => ⟨(h6 e).1, hn m h1 e (h6 e).2⟩, fun e => hF _ (h7 e)⟩
  | map n t =>
    obtain ⟨m, es, clk, h1, h2, h3, h4, h5⟩ := H
    exact ⟨m, es, clk, hm _ _ h1, (hk m h1).trans h2, hn m h1 trivial h3, h4, fun i hi => let ⟨e, he, ha, hb⟩ := h5 i hi; ⟨e, he, ha.mono hw hF hm, hb.mono hw hF hm⟩⟩
  | loop st f i fr =>
    obtain ⟨m, L, h1, h2, h3, h4⟩ := H
    exact ⟨m, L, hm _ _ h1, (hk m h1).trans h2, hn m h1 trivial h3, h4.mono hw hF hm⟩
def jK (μ : Mu) (id : Nat) (m : Mp) : Mu := fun b => if b = id then some m else μ b
theorem aD (μ : Mu) (id : Nat) (m : Mp) : jK μ id m id = some m := if_pos rfl
theorem bc (μ : Mu) {id b : Nat} (m : Mp) (hb : b ≠ id) : jK μ id m b = μ b := if_neg hb
theorem ck {id : Nat} (m : Mp) (hid : μ id = none) : ∀ b x, μ b = some x → jK μ id m b = some x := fun b x hx => by
  rw [bc]
  · exact hx
  · rintro rfl; rw [hid] at hx; cases hx
structure br (h : Hp) (id : Nat) (B : aX) (h' : Hp) : Prop where
  at_ : ∀ b, h'.at b = if b = id then B else h.at b
  nx : h.nx ≤ h'.nx
  pr : h'.pr = h.pr
  rb : h'.rb = h.rb
theorem br.same {id : Nat} {B : aX} (s : br h id B h') : h'.at id = B := by rw [s.at_, if_pos rfl]
theorem br.ne {id b : Nat} {B : aX} (s : br h id B h') (hb : b ≠ id) : h'.at b = h.at b := by rw [s.at_, if_neg hb]
theorem au.new (H : au V μ F h w) {id : Nat} {B : aX} {m : Mp} {o : Obj} (hid : μ id = none) (hw : w'.heap = w.heap.push o) (s : br h id B h') (hn : id < h'.nx) (hm : m.aF = w.heap.size)
    (hB : dN V w' F (jK μ id m) id B) (hio : bA w w' := by exact ⟨rfl, rfl⟩) : au V (jK μ id m) F h' w' ∧ Ext μ F h w (jK μ id m) F h' w' := by
  have hsz : w'.heap.size = w.heap.size + 1 := by rw [hw, Array.size_push]
  have hold : ∀ B, B < w.heap.size → w'.heap[B]? = w.heap[B]? := fun B hB => by rw [hw, Array.getElem?_push, if_neg (by omega)]
  refine ⟨⟨fun b => ?_, fun b b' x x' hb hb' hne hx hx' => ?_, fun b x hx => ?_, fun B hB => by have := H.fN B hB; omega, H.jk.mono (fun B hB => hold B (H.fN B hB)) fun _ h => h⟩,
    ⟨ck m hid, fun _ h => h, by omega, fun B hB _ => hold B hB, ?_, ?_, fun _ h => .inl h, fun b x hx => ?_, s.nx, s.pr, s.rb, hio⟩⟩
  · by_cases e : b = id
    · subst e; rw [s.same]; exact hB
    · rw [s.ne e]
      exact (H.aF b).keep (fun B hB => hold B (H.fN B hB)) (fun _ h => h) (ck m hid) (fun x hx => hold _ (H.et b x hx).2) (fun _ _ _ h => h)
  · by_cases e : b = id
    · subst e
      rw [aD] at hx; cases hx
      rw [bc μ m (Ne.symm hne)] at hx'
      have := (H.et b' x' hx').2; omega
    · rw [bc μ m e] at hx
      have h1 := (H.et b x hx).2
      by_cases e' : b' = id
      · subst e'; rw [aD] at hx'; cases hx'; omega
      · rw [bc μ m e'] at hx'
        rw [s.ne e] at hb; rw [s.ne e'] at hb'
        exact H.dw b b' x x' hb hb' hne hx hx'
  · by_cases e : b = id
    · subst e; rw [aD] at hx; cases hx; exact ⟨hn, by omega⟩
    · rw [bc μ m e] at hx
      have := H.et b x hx; have := s.nx; exact ⟨by omega, by omega⟩
  · rintro B ⟨b, x, hb, hp, hx, rfl⟩
    by_cases e : b = id
    · subst e; rw [aD] at hx; cases hx; exact .inl (by omega)
    · rw [bc μ m e] at hx; rw [s.ne e] at hb
      exact .inr ⟨b, x, hb, by rw [s.pr] at hp; exact hp, hx, rfl⟩
  · rintro B ⟨b, x, hb, hx, rfl⟩
    by_cases e : b = id
    · subst e; rw [aD] at hx; cases hx; exact .inl (by omega)
    · rw [bc μ m e] at hx; rw [s.ne e] at hb
      exact .inr ⟨b, x, hb, hx, rfl⟩
  · by_cases e : b = id
    · subst e; rw [aD] at hx; cases hx; exact .inr ⟨hid, .inl (by omega)⟩
    · rw [bc μ m e] at hx; exact .inl hx
theorem au.set (H : au V μ F h w) {b : Nat} {B : aX} {m : Mp} (hb : (h.at b).wr) (hp : b ∉ h.pr) (hm : μ b = some m) (hsz : w'.heap.size = w.heap.size) (hk : ∀ X, X ≠ m.aF → w'.heap[X]? = w.heap[X]?)
    (s : br h b B h') (hB : dN V w' F μ b B) (hio : bA w w' := by exact ⟨rfl, rfl⟩) : au V μ F h' w' ∧ Ext μ F h w μ F h' w' := by
  have hown : Own h μ m.aF := ⟨b, m, hb, hp, hm, rfl⟩
  have hF : ∀ X, F X → w'.heap[X]? = w.heap[X]? := fun X hX => hk X fun e => H.vq hown.wb (e ▸ hX)
  refine ⟨⟨fun c => ?_, fun c c' x x' hc hc' hne hx hx' => ?_, fun c x hx => ?_, fun X hX => by rw [hsz]; exact H.fN X hX, H.jk.mono hF fun _ h => h⟩,
    ⟨fun _ _ h => h, fun _ h => h, by omega, fun X _ ho => hk X fun e => ho (e ▸ hown), ?_, ?_, fun _ h => .inl h, fun _ _ h => .inl h, s.nx, s.pr, s.rb, hio⟩⟩
  · by_cases e : c = b
    · subst e; rw [s.same]; exact hB
    · rw [s.ne e]
      have hc := H.aF c
      by_cases hw : (h.at c).wr
      · exact hc.keep hF (fun _ h => h) (fun _ _ h => h) (fun x hx => hk _ (H.dw c b x m hw hb e hx hm)) (fun _ _ _ h => h)
      · revert hc hw
        generalize h.at c = X
        intro hc hw
        cases X with
        | dead => exact trivial
        | fwd i => exact hc.elim
        | map n t => exact absurd trivial hw
        | loop st f i fr => exact absurd trivial hw
        | row rw fl z sz t =>
          cases rw with
          | true => exact absurd rfl hw
          | false =>
            have hfr : ∀ x, μ c = some x → F x.aF := fun x hx => by
              obtain ⟨y, _, _, _, hy, _, _, _, _, _, h7⟩ := hc
              rw [hx] at hy; cases hy; exact h7 rfl
            exact hc.keep hF (fun _ h => h) (fun _ _ h => h) (fun x hx => hF _ (hfr x hx)) (fun _ _ _ h => h)
  · have hwr : ∀ a, (h'.at a).wr → (h.at a).wr := fun a ha => by
      by_cases e : a = b
      · subst e; exact hb
      · rw [s.ne e] at ha; exact ha
    exact H.dw c c' x x' (hwr c hc) (hwr c' hc') hne hx hx'
  · have := H.et c x hx; have := s.nx; exact ⟨by omega, by omega⟩
  · rintro X ⟨c, x, hc, hcp, hx, rfl⟩
    refine .inr ⟨c, x, ?_, by rw [s.pr] at hcp; exact hcp, hx, rfl⟩
    by_cases e : c = b
    · subst e; exact hb
    · rw [s.ne e] at hc; exact hc
  · rintro X ⟨c, x, hc, hx, rfl⟩
    refine .inr ⟨c, x, ?_, hx, rfl⟩
    by_cases e : c = b
    · subst e; exact hb
    · rw [s.ne e] at hc; exact hc
theorem au.kill (H : au V μ F h w) {b : Nat} (s : br h b .dead h') : au V μ F h' w ∧ Ext μ F h w μ F h' w := by
  have hwr : ∀ a, (h'.at a).wr → (h.at a).wr := fun a ha => by
    by_cases e : a = b
    · subst e; rw [s.same] at ha; exact ha.elim
    · rw [s.ne e] at ha; exact ha
  refine ⟨⟨fun c => ?_, fun c c' x x' hc hc' => H.dw c c' x x' (hwr c hc) (hwr c' hc'), fun c x hx => ?_, H.fN, H.jk⟩,
    ⟨fun _ _ h => h, fun _ h => h, Nat.le_refl _, fun _ _ _ => rfl, ?_, ?_, fun _ h => .inl h, fun _ _ h => .inl h, s.nx, s.pr, s.rb, .refl _⟩⟩
  · by_cases e : c = b
    · subst e; rw [s.same]; exact trivial
    · rw [s.ne e]; exact H.aF c
  · have := H.et c x hx; have := s.nx; exact ⟨by omega, by omega⟩
  · rintro X ⟨c, x, hc, hcp, hx, rfl⟩; exact .inr ⟨c, x, hwr c hc, by rw [s.pr] at hcp; exact hcp, hx, rfl⟩
  · rintro X ⟨c, x, hc, hx, rfl⟩; exact .inr ⟨c, x, hwr c hc, hx, rfl⟩
theorem au.move (H : au V μ F h w) {c id : Nat} {B : aX} {m m' : Mp} {h1 : Hp} (hc : (h.at c).wr) (hp : c ∉ h.pr) (hm : μ c = some m) (hid : μ id = none) (s1 : br h c .dead h1) (s : br h1 id B h') (hn : id < h'.nx) (hne : id ≠ c)
    (hsz : w'.heap.size = w.heap.size) (hk : ∀ X, X ≠ m.aF → w'.heap[X]? = w.heap[X]?) (hm' : m'.aF = m.aF) (hB : dN V w' F (jK μ id m') id B) (hio : bA w w' := by exact ⟨rfl, rfl⟩) :
    au V (jK μ id m') F h' w' ∧ Ext μ F h w (jK μ id m') F h' w' := by
  have hown : Own h μ m.aF := ⟨c, m, hc, hp, hm, rfl⟩
  have hF : ∀ X, F X → w'.heap[X]? = w.heap[X]? := fun X hX => hk X fun e => H.vq hown.wb (e ▸ hX)
  have hat : ∀ b, b ≠ id → b ≠ c → h'.at b = h.at b := fun b h1 h2 => by rw [s.ne h1, s1.ne h2]
  have hcd : h'.at c = .dead := by rw [s.ne (Ne.symm hne), s1.same]
  have hwr : ∀ a, a ≠ id → (h'.at a).wr → (h.at a).wr ∧ a ≠ c := fun a ha hw => by
    by_cases e : a = c
    · subst e; rw [hcd] at hw; exact hw.elim
    · rw [hat a ha e] at hw; exact ⟨hw, e⟩
  have hpr : h'.pr = h.pr := s.pr.trans s1.pr
  have hnx : h.nx ≤ h'.nx := Nat.le_trans s1.nx s.nx
  have hmb := (H.et c m hm).2
  refine ⟨⟨fun b => ?_, fun b b' x x' hb hb' hne' hx hx' => ?_, fun b x hx => ?_, fun X hX => by rw [hsz]; exact H.fN X hX, H.jk.mono hF fun _ h => h⟩,
    ⟨ck m' hid, fun _ h => h, by omega, fun X _ ho => hk X fun e => ho (e ▸ hown), ?_, ?_, fun _ h => .inl h, fun b x hx => ?_, hnx, hpr, s.rb.trans s1.rb, hio⟩⟩
  · by_cases e : b = id
    · subst e; rw [s.same]; exact hB
    · by_cases e2 : b = c
      · subst e2; rw [hcd]; exact trivial
      · rw [hat b e e2]
        have hb := H.aF b
        by_cases hw : (h.at b).wr
        · exact hb.keep hF (fun _ h => h) (ck m' hid) (fun x hx => hk _ (H.dw b c x m hw hc e2 hx hm)) (fun _ _ _ h => h)
        · revert hb hw
          generalize h.at b = X
          intro hb hw
          cases X with
          | dead => exact trivial
          | fwd i => exact hb.elim
          | map n t => exact absurd trivial hw
          | loop st f i fr => exact absurd trivial hw
          | row rw fl z sz t =>
            cases rw with
            | true => exact absurd rfl hw
            | false =>
              have hfr : ∀ x, μ b = some x → F x.aF := fun x hx => by
                obtain ⟨y, _, _, _, hy, _, _, _, _, _, h7⟩ := hb
                rw [hx] at hy; cases hy; exact h7 rfl
              exact hb.keep hF (fun _ h => h) (ck m' hid) (fun x hx => hF _ (hfr x hx)) (fun _ _ _ h => h)
  · by_cases e : b = id
    · subst e
      rw [aD] at hx; cases hx
      rw [bc μ m' (Ne.symm hne')] at hx'
      have ⟨h1, h2⟩ := hwr b' (Ne.symm hne') hb'
      rw [hm']; exact Ne.symm (H.dw b' c x' m h1 hc h2 hx' hm)
    · rw [bc μ m' e] at hx
      have ⟨h1, h2⟩ := hwr b e hb
      by_cases e' : b' = id
      · subst e'; rw [aD] at hx'; cases hx'; rw [hm']; exact H.dw b c x m h1 hc h2 hx hm
      · rw [bc μ m' e'] at hx'
        exact H.dw b b' x x' h1 (hwr b' e' hb').1 hne' hx hx'
  · by_cases e : b = id
    · subst e; rw [aD] at hx; cases hx; exact ⟨hn, by omega⟩
    · rw [bc μ m' e] at hx
      have := H.et b x hx; exact ⟨by omega, by omega⟩
  · rintro X ⟨b, x, hb, hbp, hx, rfl⟩
    by_cases e : b = id
    · subst e; rw [aD] at hx; cases hx; rw [hm']; exact .inr hown
    · rw [bc μ m' e] at hx
      exact .inr ⟨b, x, (hwr b e hb).1, by rw [hpr] at hbp; exact hbp, hx, rfl⟩
  · rintro X ⟨b, x, hb, hx, rfl⟩
    by_cases e : b = id
    · subst e; rw [aD] at hx; cases hx; rw [hm']; exact .inr hown.wb
    · rw [bc μ m' e] at hx
      exact .inr ⟨b, x, (hwr b e hb).1, hx, rfl⟩
  · by_cases e : b = id
    · subst e; rw [aD] at hx; cases hx; exact .inr ⟨hid, .inr (hm' ▸ hown)⟩
    · rw [bc μ m' e] at hx; exact .inl hx
theorem au.mark (H : au V μ F h w) {b : Nat} {rw fl fl' : Bool} {z sz : Nat} {t : Row} {m : Mp} (hb : h.at b = .row rw fl z sz t) (hm : μ b = some m) (hfl : fl' = true → fl = true) (s : br h b (.row false fl' z sz t) h') :
    au V μ (fun B => F B ∨ B = m.aF) h' w ∧ Ext μ F h w μ (fun B => F B ∨ B = m.aF) h' w := by
  have hB := H.aF b
  rw [hb] at hB
  obtain ⟨m', c, T, fz, h1, h2, h3, h4, h5, h6, h7⟩ := hB
  rw [hm] at h1; cases h1
  have hwb : WB h μ m.aF ∨ F m.aF := by
    cases rw with
    | true => exact .inl ⟨b, m, by rw [hb]; exact rfl, hm, rfl⟩
    | false => exact .inr (h7 rfl)
  have hwr : ∀ a, (h'.at a).wr → (h.at a).wr ∧ a ≠ b := fun a ha => by
    by_cases e : a = b
    · subst e; rw [s.same] at ha; exact Bool.noConfusion ha
    · rw [s.ne e] at ha; exact ⟨ha, e⟩
  refine ⟨⟨fun c' => ?_, fun c c' x x' hc hc' => H.dw c c' x x' (hwr c hc).1 (hwr c' hc').1, fun c x hx => ?_, fun B hB => hB.elim (H.fN B) fun e => e ▸ (H.et b m hm).2, H.jk.mono (fun _ _ => rfl) fun _ h => .inl h⟩,
    ⟨fun _ _ h => h, fun _ h => .inl h, Nat.le_refl _, fun _ _ _ => rfl, ?_, ?_, fun B h => h.elim .inl fun e => hwb.elim (fun h => .inr (.inr (e ▸ h))) fun h => .inl (e ▸ h), fun _ _ h => .inl h, s.nx, s.pr, s.rb, .refl _⟩⟩
  · by_cases e : c' = b
    · subst e; rw [s.same]
      exact ⟨m, c, T, fz, hm, h2, h3, fun i hi => let ⟨u, hu, h1, hc⟩ := h4 i hi; ⟨u, hu, h1, hc.mono (fun _ _ => rfl) (fun _ h => .inl h) fun _ _ h => h⟩, fun e => h5 (hfl e), fun e => Bool.noConfusion e, fun _ => .inr rfl⟩
    · rw [s.ne e]
      refine (H.aF c').keep (fun _ _ => rfl) (fun _ h => .inl h) (fun _ _ h => h) (fun _ _ => rfl) fun x hx hwx hnx hor => ?_
      rcases hor with q | q
      · exact hnx q
      · rcases hwb with hw | hf
        · have hbw : (h.at b).wr := by
            obtain ⟨b0, m0, hb0, hm0, hB0⟩ := hw
            rw [hb]
            cases rw with
            | true => exact rfl
            | false => exact absurd (h7 rfl) (H.vq ⟨b0, m0, hb0, hm0, hB0⟩)
          exact H.dw c' b x m hwx hbw e hx hm q
        · exact hnx (q ▸ hf)
  · have := H.et c x hx; have := s.nx; exact ⟨by omega, by omega⟩
  · rintro X ⟨c, x, hc, hcp, hx, rfl⟩; exact .inr ⟨c, x, (hwr c hc).1, by rw [s.pr] at hcp; exact hcp, hx, rfl⟩
  · rintro X ⟨c, x, hc, hx, rfl⟩; exact .inr ⟨c, x, (hwr c hc).1, hx, rfl⟩
theorem au.world (H : au V μ F h w) (hw : w'.heap = w.heap) (hio : bA w w' := by exact ⟨rfl, rfl⟩) : au V μ F h w' ∧ Ext μ F h w μ F h w' := by
  have hk : ∀ X : Nat, w'.heap[X]? = w.heap[X]? := fun X => by rw [hw]
  exact ⟨⟨fun b => (H.aF b).keep (fun B _ => hk B) (fun _ h => h) (fun _ _ h => h) (fun _ _ => hk _) (fun _ _ _ h => h), H.dw, fun b m hm => by rw [hw]; exact H.et b m hm, fun B hB => by rw [hw]; exact H.fN B hB, H.jk.mono (fun B _ => hk B) fun _ h => h⟩,
    ⟨fun _ _ h => h, fun _ h => h, by rw [hw]; exact Nat.le_refl _, fun B _ _ => hk B, fun _ h => .inr h, fun _ h => .inr h, fun _ h => .inl h, fun _ _ h => .inl h, Nat.le_refl _, rfl, rfl, hio⟩⟩
end
end Go.Proofs.YtdlohaedegmiaaaGreatDoor.Ev
