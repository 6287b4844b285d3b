import Derived.Test.YtbamejikafhenaaDoorEvAB
import Derived.CallsIn
import Derived.Deep.AppendSrc
import Derived.Deep.MidRow
namespace Go.Proofs.YtbamejikafhenaaDoor.Ev
theorem eF {ρ : Type} (b : Bool) (x y : ρ) : (Bool.rec (motive := fun _ => ρ) x y b : ρ) = if b = true then y else x := by cases b <;> rfl
theorem aF (a b : Nat) : (Nat.beq a b = true) = (a = b) := propext ⟨fun h => Nat.eq_of_beq_eq_true h, fun h => by subst h; exact Nat.beq_refl a⟩
theorem bA (a b : Nat) : (Nat.ble a b = true) = (a ≤ b) := propext ⟨fun h => Nat.le_of_ble_eq_true h, fun h => Nat.ble_eq_true_of_le h⟩
theorem cI (a b : Bool) : (bp a b = true) = (a = true ∧ b = true) := by cases a <;> cases b <;> simp [bp]
theorem fA (a : Bool) : dv a = !a := by cases a <;> rfl
theorem vM (a b : Bool) : a15 a b = (a != b) := by cases a <;> cases b <;> rfl
theorem az (n : Nat) (k : Nat → aa) : aG n k = k n := by cases n <;> rfl
theorem km (b : Bool) (k : Bool → aa) : iU b k = k b := by cases b <;> rfl
theorem afP (b : Bool) (x y : aa) : when b x y = if b = true then x else y := by cases b <;> rfl
section out
variable {R : aa} (hR : R ≠ .fail)
include hR
theorem an {α : Prop} (h : aa.fail = R) : α := absurd h.symm hR
theorem ax {b : Bool} {x : aa} (h : ar b x = R) : b = true ∧ x = R := by
  cases b
  · exact an hR h
  · exact ⟨rfl, h⟩
theorem aM {b : Bool} {x y : aa} (h : when b x y = R) : (b = true ∧ x = R) ∨ (b = false ∧ y = R) := by
  have _ := hR
  cases b
  · exact .inr ⟨rfl, h⟩
  · exact .inl ⟨rfl, h⟩
theorem dR {v : AV} {f : Nat → Nat → aa} (h : v.bV f = R) : ∃ i n, v = .int i n ∧ f i n = R := by
  cases v <;> first | exact ⟨_, _, rfl, h⟩ | exact an hR h
theorem kP {v : AV} {f : Bool → aa} (h : v.ay f = R) : ∃ b, v = .bool b ∧ f b = R := by
  cases v <;> first | exact ⟨_, rfl, h⟩ | exact an hR h
theorem dO {v : AV} {f : Nat → Nat → aa} (h : v.ea f = R) : ∃ s n, v = .str s n ∧ f s n = R := by
  cases v <;> first | exact ⟨_, _, rfl, h⟩ | exact an hR h
theorem gb {v : AV} {f : Row → Nat → aa} (h : v.jq f = R) : ∃ t n, v = .agg t n ∧ f t n = R := by
  cases v <;> first | exact ⟨_, _, rfl, h⟩ | exact an hR h
theorem a94 {v : AV} {f : Row → Nat → aa} (h : v.wx f = R) : ∃ t n, v = .bB t n ∧ f t n = R := by
  cases v <;> first | exact ⟨_, _, rfl, h⟩ | exact an hR h
theorem a25 {v : AV} {f : Nat → Row → Nat → Nat → Nat → aa} (h : v.onX f = R) : ∃ g t a b c, v = .x g t a b c ∧ f g t a b c = R := by
  cases v <;> first | exact ⟨_, _, _, _, _, rfl, h⟩ | exact an hR h
theorem kp {v : AV} {f : Nat → Nat → aa} {g : Row → Nat → Nat → Nat → aa} (h : v.pX f g = R) : (∃ b o, v = .ptr b o ∧ f b o = R) ∨ (∃ t a b c, v = .x 1 t a b c ∧ g t a b c = R) := by
  cases v <;> first | exact .inl ⟨_, _, rfl, h⟩ | (exact an hR h) | skip
  rename_i i t a b c
  by_cases hi : i = 1
  · subst hi; exact .inr ⟨_, _, _, _, rfl, h⟩
  · have : Nat.beq i 1 = false := by cases hb : Nat.beq i 1 with | false => rfl | true => exact absurd (Nat.eq_of_beq_eq_true hb) hi
    have h' : (Bool.rec (motive := fun _ => aa) .fail (g t a b c) (Nat.beq i 1) : aa) = R := h
    rw [this] at h'; exact an hR h'
theorem gV {v : AV} {f : Nat → Nat → Nat → Nat → aa} {r : Row → Nat → Nat → Nat → aa} {z : Nat → aa} {s : Nat → Nat → aa} (h : v.fg f r z s = R) :
    (∃ b o n y, v = .ms b o n y ∧ f b o n y = R) ∨ (∃ t o n y, v = .vs t o n y ∧ r t o n y = R) ∨ (∃ i t a b c, v = .x i t a b c ∧ z i = R) ∨ (∃ x n, v = .str x n ∧ s x n = R) := by
  cases v <;> first | exact .inl ⟨_, _, _, _, rfl, h⟩ | exact .inr (.inl ⟨_, _, _, _, rfl, h⟩) | exact .inr (.inr (.inl ⟨_, _, _, _, _, rfl, h⟩)) | exact .inr (.inr (.inr ⟨_, _, rfl, h⟩)) | exact an hR h
theorem sX {B : bX} {f : Bool → Bool → Nat → Nat → Row → aa} (h : B.lO f = R) : ∃ rw fl z s t, B = .row rw fl z s t ∧ f rw fl z s t = R := by
  cases B <;> first | exact ⟨_, _, _, _, _, rfl, h⟩ | exact an hR h
theorem tY {B : bX} {f : Nat → Row → aa} (h : B.q8 f = R) : ∃ n t, B = .map n t ∧ f n t = R := by
  cases B <;> first | exact ⟨_, _, rfl, h⟩ | exact an hR h
theorem a5d {B : bX} {f : Nat → Nat → Nat → Fr → aa} (h : B.ye f = R) : ∃ s g i fr, B = .loop s g i fr ∧ f s g i fr = R := by
  cases B <;> first | exact ⟨_, _, _, _, rfl, h⟩ | exact an hR h
end out
def Tr.get {α : Type} (d : α) : Tr α → Nat → α
  | .lf, _ => d
  | .nd v l r, i => match i with | 0 => v | j + 1 => if j % 2 = 0 then Tr.get d l (j / 2) else Tr.get d r (j / 2)
abbrev Tr.at (t : Row) (i : Nat) : AV := t.get .uu i
abbrev Hp.at (h : Hp) (b : Nat) : bX := h.t.get .dead b
theorem qg {α : Type} (d : α) (i : Nat) : (Tr.lf : Tr α).get d i = d := by cases i <;> rfl
theorem jh {α : Type} (d v : α) (l r : Tr α) (j : Nat) : (Tr.nd v l r).get d (j + 1) = if j % 2 = 0 then l.get d (j / 2) else r.get d (j / 2) := rfl
def jE {α : Type} (d : α) (t : Tr α) (i : Nat) (x : α) (t' : Tr α) : Prop := ∀ j, t'.get d j = if j = i then x else t.get d j
theorem vj (j : Nat) : j % 2 = 0 ∨ j % 2 = 1 := by omega
theorem acv {R : aa} (hR : R ≠ .fail) {α : Type} (d : α) (n : Nat) : ∀ {t : Tr α} {i : Nat} {k : α → aa}, (gk d n).f t i k = R → k (t.get d i) = R := by
  induction n with
  | zero => intro t i k h; exact an hR h
  | succ n ih =>
    intro t i k h
    cases t with
    | lf => rw [qg]; exact h
    | nd v l r =>
      cases i with
      | zero => exact h
      | succ j =>
        rw [jh]
        rcases vj j with hj | hj
        · rw [if_pos hj]
          have h' : (Nat.rec (motive := fun _ => aa) ((gk d n).f l (Nat.div j 2) k) (fun _ _ => (gk d n).f r (Nat.div j 2) k) (j % 2) : aa) = R := h
          rw [hj] at h'; exact ih h'
        · rw [if_neg (by omega)]
          have h' : (Nat.rec (motive := fun _ => aa) ((gk d n).f l (Nat.div j 2) k) (fun _ _ => (gk d n).f r (Nat.div j 2) k) (j % 2) : aa) = R := h
          rw [hj] at h'; exact ih h'
theorem oS {α : Type} {d v x : α} {l l' r : Tr α} {j : Nat} (hj : j % 2 = 0) (h : jE d l (j / 2) x l') : jE d (.nd v l r) (j + 1) x (.nd v l' r) := by
  intro i
  cases i with
  | zero => rw [if_neg (by omega)]; rfl
  | succ i =>
    rw [jh, jh]
    rcases vj i with hi | hi
    · simp only [hi, if_true, h (i / 2)]
      by_cases e : i = j
      · subst e; simp
      · have e1 : ¬ i / 2 = j / 2 := by omega
        have e2 : ¬ i + 1 = j + 1 := by omega
        simp only [e1, e2, if_false]
    · have h1 : ¬ i % 2 = 0 := by omega
      have e2 : ¬ i + 1 = j + 1 := by omega
      simp only [h1, e2, if_false]
theorem lN {α : Type} {d v x : α} {l r r' : Tr α} {j : Nat} (hj : j % 2 = 1) (h : jE d r (j / 2) x r') : jE d (.nd v l r) (j + 1) x (.nd v l r') := by
  intro i
  cases i with
  | zero => rw [if_neg (by omega)]; rfl
  | succ i =>
    rw [jh, jh]
    rcases vj i with hi | hi
    · have e2 : ¬ i + 1 = j + 1 := by omega
      simp only [hi, if_true, e2, if_false]
    · have h1 : ¬ i % 2 = 0 := by omega
      simp only [h1, if_false, h (i / 2)]
      by_cases e : i = j
      · subst e; simp
      · have e1 : ¬ i / 2 = j / 2 := by omega
        have e2 : ¬ i + 1 = j + 1 := by omega
        simp only [e1, e2, if_false]
theorem qE {α : Type} {d x : α} {t' : Tr α} {i : Nat} (h : jE d (.nd d .lf .lf) i x t') : jE d .lf i x t' := by
  intro j; rw [h j]
  by_cases e : j = i
  · simp [e]
  · rw [if_neg e, if_neg e]
    cases j with
    | zero => rfl
    | succ j => rw [jh]; simp only [qg, ite_self]
theorem acu {R : aa} (hR : R ≠ .fail) {α : Type} (d : α) (n : Nat) : ∀ {t : Tr α} {i : Nat} {x : α} {k : Tr α → aa}, (sk d n).f t i x k = R → ∃ t', jE d t i x t' ∧ k t' = R := by
  induction n with
  | zero => intro t i x k h; exact an hR h
  | succ n ih =>
    intro t i x k h
    cases t with
    | lf =>
      cases i with
      | zero => exact ⟨_, qE (fun j => by cases j <;> rfl), h⟩
      | succ j =>
        have h' : (Nat.rec (motive := fun _ => aa) ((sk d n).f .lf (Nat.div j 2) x fun l => k (.nd d l .lf)) (fun _ _ => (sk d n).f .lf (Nat.div j 2) x fun r => k (.nd d .lf r)) (j % 2) : aa) = R := h
        rcases vj j with hj | hj
        · rw [hj] at h'; obtain ⟨l, hl, hk⟩ := ih h'; exact ⟨_, qE (oS hj hl), hk⟩
        · rw [hj] at h'; obtain ⟨r, hr, hk⟩ := ih h'; exact ⟨_, qE (lN hj hr), hk⟩
    | nd v l r =>
      cases i with
      | zero => exact ⟨_, fun j => by cases j <;> rfl, h⟩
      | succ j =>
        have h' : (Nat.rec (motive := fun _ => aa) ((sk d n).f l (Nat.div j 2) x fun l' => k (.nd v l' r)) (fun _ _ => (sk d n).f r (Nat.div j 2) x fun r' => k (.nd v l r')) (j % 2) : aa) = R := h
        rcases vj j with hj | hj
        · rw [hj] at h'; obtain ⟨l', hl, hk⟩ := ih h'; exact ⟨_, oS hj hl, hk⟩
        · rw [hj] at h'; obtain ⟨r', hr, hk⟩ := ih h'; exact ⟨_, lN hj hr, hk⟩
structure cW (M : Mem) : Prop where
  rg : ∀ {R : aa}, R ≠ .fail → ∀ {t : Row} {i : Nat} {k : AV → aa}, M.rg.f t i k = R → k (t.at i) = R
  rs : ∀ {R : aa}, R ≠ .fail → ∀ {t : Row} {i : Nat} {x : AV} {k : Row → aa}, M.rs.f t i x k = R → ∃ t', jE .uu t i x t' ∧ k t' = R
  hg : ∀ {R : aa}, R ≠ .fail → ∀ {t : Tr bX} {i : Nat} {k : bX → aa}, M.hg.f t i k = R → k (t.get .dead i) = R
  hs : ∀ {R : aa}, R ≠ .fail → ∀ {t : Tr bX} {i : Nat} {x : bX} {k : Tr bX → aa}, M.hs.f t i x k = R → ∃ t', jE .dead t i x t' ∧ k t' = R
theorem b8 : cW mem := ⟨fun hR _ _ _ h => acv hR _ 24 h, fun hR _ _ _ _ h => acu hR _ 24 h, fun hR _ _ _ h => acv hR _ 24 h, fun hR _ _ _ _ h => acu hR _ 24 h⟩
def Fr.at : Fr → Nat → AV
  | .e, _ => .uu
  | .n a b c d x f g h r, i => match i with | 0 => a | 1 => b | 2 => c | 3 => d | 4 => x | 5 => f | 6 => g | 7 => h | j + 8 => Fr.at r j
theorem a4q {R : aa} (hR : R ≠ .fail) : ∀ (i : Nat) {sk : Row} {fr : Fr} {k : AV → aa}, (fget i).get sk fr k = R → k (fr.at i) = R
  | 0, _, fr, _, h | 1, _, fr, _, h | 2, _, fr, _, h | 3, _, fr, _, h | 4, _, fr, _, h | 5, _, fr, _, h | 6, _, fr, _, h | 7, _, fr, _, h => by cases fr <;> first | exact h | exact an hR h
  | i + 8, _, fr, _, h => by
    cases fr with
    | e => exact an hR h
    | n a b c d e f g hh r => exact a4q hR i (fr := r) h
def FSet (fr : Fr) (i : Nat) (x : AV) (fr' : Fr) : Prop := ∀ j, fr'.at j = if j = i then x else fr.at j
theorem wO {R : aa} (hR : R ≠ .fail) : ∀ (i : Nat) {fr : Fr} {x : AV} {k : Fr → aa}, (fset i).f fr x k = R → ∃ fr', FSet fr i x fr' ∧ k fr' = R
  | 0, fr, x, k, h | 1, fr, x, k, h | 2, fr, x, k, h | 3, fr, x, k, h | 4, fr, x, k, h | 5, fr, x, k, h | 6, fr, x, k, h | 7, fr, x, k, h => by
    cases fr with
    | e => exact an hR h
    | n a b c d e f g hh r =>
      refine ⟨_, fun j => ?_, h⟩
      rcases j with _ | _ | _ | _ | _ | _ | _ | _ | j <;> rfl
  | i + 8, fr, x, k, h => by
    cases fr with
    | e => exact an hR h
    | n a b c d e f g hh r =>
      obtain ⟨r', hr, hk⟩ := wO hR i (fr := r) h
      refine ⟨_, fun j => ?_, hk⟩
      rcases j with _ | _ | _ | _ | _ | _ | _ | _ | j
      iterate 8 rfl
      show r'.at j = if j + 8 = i + 8 then x else r.at j
      rw [hr j]
      by_cases e : j = i
      · simp [e]
      · rw [if_neg e, if_neg (by omega)]
def nth : Row → Nat → AV
  | .lf, _ => .uu
  | .nd v _ r, i => match i with | 0 => v | j + 1 => nth r j
def len : Row → Nat
  | .lf => 0
  | .nd _ _ r => len r + 1
theorem wR {R : aa} (hR : R ≠ .fail) : ∀ (i : Nat) {sk : Row} {fr : Fr} {k : AV → aa}, (a4b i).get sk fr k = R → i < len sk ∧ k (nth sk i) = R
  | 0, sk, _, _, h => by cases sk <;> first | exact an hR h | exact ⟨Nat.succ_pos _, h⟩
  | i + 1, sk, fr, _, h => by
    cases sk with
    | lf => exact an hR h
    | nd v l r => obtain ⟨h1, h2⟩ := wR hR i (sk := r) (fr := fr) h; exact ⟨Nat.succ_lt_succ h1, h2⟩
theorem yg {R : aa} (hR : R ≠ .fail) (i : Nat) : ∀ {t : Row} {k : AV → aa}, (yD i).f t k = R → i < len t ∧ k (nth t i) = R := by
  induction i with
  | zero => intro t k h; cases t <;> first | exact an hR h | exact ⟨Nat.succ_pos _, h⟩
  | succ i ih =>
    intro t k h
    cases t with
    | lf => exact an hR h
    | nd v l r => obtain ⟨h1, h2⟩ := ih (t := r) h; exact ⟨Nat.succ_lt_succ h1, h2⟩
def LSet (l : Row) (i : Nat) (x : AV) (l' : Row) : Prop := i < len l ∧ len l' = len l ∧ ∀ j, nth l' j = if j = i then x else nth l j
theorem wZ {R : aa} (hR : R ≠ .fail) (i : Nat) : ∀ {t : Row} {x : AV} {k : Row → aa}, (yY i).f t x k = R → ∃ t', LSet t i x t' ∧ k t' = R := by
  induction i with
  | zero =>
    intro t x k h
    cases t with
    | lf => exact an hR h
    | nd v l r => exact ⟨.nd x .lf r, ⟨Nat.succ_pos _, rfl, fun j => by cases j <;> rfl⟩, h⟩
  | succ i ih =>
    intro t x k h
    cases t with
    | lf => exact an hR h
    | nd v l r =>
      obtain ⟨r', ⟨h1, h2, h3⟩, hk⟩ := ih (t := r) h
      refine ⟨_, ⟨Nat.succ_lt_succ h1, congrArg (· + 1) h2, fun j => ?_⟩, hk⟩
      cases j with
      | zero => rfl
      | succ j =>
        show nth r' j = if j + 1 = i + 1 then x else nth r j
        rw [h3 j]
        by_cases e : j = i
        · simp [e]
        · rw [if_neg e, if_neg (by omega)]
theorem a0o {R : aa} (hR : R ≠ .fail) (n : Nat) : ∀ {t : Row} {k : Row → aa}, (a8z n).f t k = R → ∃ t', (n + len t' = len t ∧ ∀ j, nth t' j = nth t (n + j)) ∧ k t' = R := by
  induction n with
  | zero => intro t k h; exact ⟨t, ⟨Nat.zero_add _, fun j => by rw [Nat.zero_add]⟩, h⟩
  | succ n ih =>
    intro t k h
    cases t with
    | lf => exact an hR h
    | nd v l r =>
      obtain ⟨t', ⟨h1, h2⟩, hk⟩ := ih (t := r) h
      refine ⟨t', ⟨?_, fun j => ?_⟩, hk⟩
      · show n + 1 + len t' = len r + 1; omega
      · rw [h2 j, show n + 1 + j = n + j + 1 by omega]; rfl
theorem zg {R : aa} (hR : R ≠ .fail) (n : Nat) : ∀ {t : Row} {k : Row → aa}, (aaA n).f t k = R → ∃ t', (len t' = n ∧ n ≤ len t ∧ ∀ j, j < n → nth t' j = nth t j) ∧ k t' = R := by
  induction n with
  | zero => intro t k h; exact ⟨.lf, ⟨rfl, Nat.zero_le _, fun j hj => absurd hj (by omega)⟩, h⟩
  | succ n ih =>
    intro t k h
    cases t with
    | lf => exact an hR h
    | nd v l r =>
      obtain ⟨t', ⟨h1, h2, h3⟩, hk⟩ := ih (t := r) (k := fun r => k (.nd v .lf r)) h
      refine ⟨_, ⟨congrArg (· + 1) h1, Nat.succ_le_succ h2, fun j hj => ?_⟩, hk⟩
      cases j with
      | zero => rfl
      | succ j => exact h3 j (by omega)
noncomputable def AV.jg : AV → Bool
  | .int .. | .bool _ | .str .. => true
  | .x g _ _ _ _ => jP g
  | _ => false
theorem a08 {R : aa} {v : AV} {k : Bool → aa} (h : v.plain k = R) : k v.jg = R := by
  cases v <;> first | exact h | (have h' : iU (jP _) k = R := h; rw [km] at h'; exact h')
theorem kX {R : aa} {k : Bool → aa} : ∀ {l : Row}, eM l k = R → ∃ b, (b = true → ∀ i, i < len l → (nth l i).jg = true) ∧ k b = R
  | .lf, h => ⟨true, fun _ i hi => absurd hi (Nat.not_lt_zero _), h⟩
  | .nd v a r, h => by
    have h' : when v.jg (eM r k) (k false) = R := a08 h
    rw [afP] at h'
    by_cases hv : v.jg = true
    · rw [if_pos hv] at h'
      obtain ⟨b, hb, hk⟩ := kX (l := r) h'
      refine ⟨b, fun e i hi => ?_, hk⟩
      cases i with
      | zero => exact hv
      | succ i => exact hb e i (by have : i + 1 < len r + 1 := hi; omega)
    · rw [if_neg hv] at h'; exact ⟨false, fun e => Bool.noConfusion e, h'⟩
end Go.Proofs.YtbamejikafhenaaDoor.Ev
namespace Go.Proofs.YtbamejikafhenaaDoor.Ev
def elc : AV → Nat → AV
  | .agg l _, j => nth l j
  | _, _ => .uu
def cellAt (z : Nat) (t : Row) (i : Nat) : AV := if z = 1 then t.at i else elc (t.at (i / z)) (i % z)
def cv : AV → Nat → AV
  | .agg l _, i => nth l i
  | v, _ => v
inductive Fits : AV → Nat → Prop
  | agg (l : Row) (n : Nat) : Fits (.agg l n) n
  | one {v : AV} (h1 : ∀ l n, v ≠ .agg l n) (h2 : ∀ t n, v ≠ .bB t n) (h3 : ∀ t a b c, v ≠ .x 0 t a b c) : Fits v 1
section
variable {M : Mem} (ok : cW M) {R : aa} (hR : R ≠ .fail)
include ok hR
theorem a1k {z : Nat} {t : Row} {i : Nat} {k : AV → aa} (h : rdC M z t i k = R) : k (cellAt z t i) = R := by
  rcases aM hR h with ⟨hz, h⟩ | ⟨hz, h⟩
  · rw [aF] at hz; rw [cellAt, if_pos hz]; exact ok.rg hR h
  · have hz' : ¬ z = 1 := fun e => by rw [← aF, hz] at e; exact Bool.noConfusion e
    obtain ⟨l, n, hv, h⟩ := gb hR (ok.rg hR h)
    have hv' : t.at (i / z) = .agg l n := hv
    rw [cellAt, if_neg hz', hv']
    exact (yg hR _ h).2
def CSet (z : Nat) (t : Row) (i : Nat) (c : AV) (t' : Row) : Prop := ∀ j, cellAt z t' j = if j = i then c else cellAt z t j
theorem a8C {z : Nat} {t : Row} {i : Nat} {c : AV} {k : Row → aa} (h : wrC M z t i c k = R) : ∃ t', CSet z t i c t' ∧ k t' = R := by
  rcases aM hR h with ⟨hz, h⟩ | ⟨hz, h⟩
  · rw [aF] at hz
    obtain ⟨t', ht, hk⟩ := ok.rs hR h
    refine ⟨t', fun j => ?_, hk⟩
    rw [cellAt, cellAt, if_pos hz, if_pos hz]; exact ht j
  · have hz' : ¬ z = 1 := fun e => by rw [← aF, hz] at e; exact Bool.noConfusion e
    obtain ⟨l, n, hv, h⟩ := gb hR (ok.rg hR h)
    have hv' : t.at (i / z) = .agg l n := hv
    obtain ⟨l', ⟨_, _, hl⟩, h⟩ := wZ hR _ h
    obtain ⟨t', ht, hk⟩ := ok.rs hR h
    refine ⟨t', fun j => ?_, hk⟩
    rw [cellAt, cellAt, if_neg hz', if_neg hz']
    have htj : t'.at (j / z) = if j / z = i / z then .agg l' n else t.at (j / z) := ht (j / z)
    rw [htj]
    by_cases e : j / z = i / z
    · rw [if_pos e, e, hv']
      show nth l' (j % z) = if j = i then c else nth l (j % z)
      rw [hl (j % z)]
      by_cases e2 : j = i
      · subst e2; rw [if_pos rfl]; exact if_pos rfl
      · have e3 : ¬ j % z = i % z := fun e3 => e2 (by rw [← Nat.div_add_mod j z, ← Nat.div_add_mod i z, e, e3])
        rw [if_neg e2]; exact if_neg e3
    · have e2 : ¬ j = i := fun e2 => e (by rw [e2])
      rw [if_neg e, if_neg e2]
theorem ads {z : Nat} {t : Row} (n : Nat) : ∀ {o : Nat} {k : Row → aa}, (getC M z n).f t o k = R → ∃ l, (∀ j, j < n → nth l j = cellAt z t (o + j)) ∧ k l = R := by
  induction n with
  | zero => intro o k h; exact ⟨.lf, fun j hj => absurd hj (Nat.not_lt_zero _), h⟩
  | succ n ih =>
    intro o k h
    have h1 := a1k ok hR (k := fun v => (getC M z n).f t (Nat.succ o) fun r => k (.nd v .lf r)) h
    obtain ⟨l, hl, hk⟩ := ih h1
    refine ⟨_, fun j hj => ?_, hk⟩
    cases j with
    | zero => rfl
    | succ j => show nth l j = _; rw [hl j (by omega)]; congr 1; omega
theorem wo {z : Nat} (n : Nat) : ∀ {l t : Row} {o : Nat} {k : Row → aa}, (nW M z n).f l t o k = R → ∃ t', (∀ j, cellAt z t' j = if o ≤ j ∧ j < o + n then nth l (j - o) else cellAt z t j) ∧ k t' = R := by
  induction n with
  | zero => intro l t o k h; exact ⟨t, fun j => by rw [if_neg (by omega)], h⟩
  | succ n ih =>
    intro l t o k h
    cases l with
    | lf => exact an hR h
    | nd v a r =>
      obtain ⟨t1, ht1, h⟩ := a8C ok hR (k := fun t => (nW M z n).f r t (Nat.succ o) k) h
      obtain ⟨t', ht', hk⟩ := ih h
      refine ⟨t', fun j => ?_, hk⟩
      rw [ht' j, ht1 j]
      by_cases e : j = o
      · have e1 : ¬ (Nat.succ o ≤ j ∧ j < Nat.succ o + n) := by omega
        have e2 : o ≤ j ∧ j < o + (n + 1) := by omega
        rw [if_neg e1, if_pos e, if_pos e2, e, Nat.sub_self]; rfl
      · by_cases e1 : Nat.succ o ≤ j ∧ j < Nat.succ o + n
        · have e2 : o ≤ j ∧ j < o + (n + 1) := by omega
          rw [if_pos e1, if_pos e2, show j - o = (j - Nat.succ o) + 1 by omega]; rfl
        · have e2 : ¬ (o ≤ j ∧ j < o + (n + 1)) := by omega
          rw [if_neg e1, if_neg e, if_neg e2]
omit ok hR in
theorem a1P {z o j : Nat} (hz : 0 < z) (ho : o % z = 0) : j / z = o / z ↔ o ≤ j ∧ j < o + z := by
  have h1 : o / z * z = o := Nat.div_mul_cancel (Nat.dvd_of_mod_eq_zero ho)
  constructor
  · intro e
    have h2 := Nat.div_add_mod j z
    have h3 := Nat.mod_lt j hz
    rw [e, Nat.mul_comm, h1] at h2; omega
  · intro ⟨a, b⟩
    exact Nat.div_eq_of_lt_le (by omega) (by rw [Nat.succ_mul]; omega)
omit ok hR in
theorem abt {z o j : Nat} (ho : o % z = 0) (h : o ≤ j ∧ j < o + z) : j % z = j - o := by
  obtain ⟨d, rfl⟩ : ∃ d, j = o + d := ⟨j - o, by omega⟩
  rw [Nat.add_mod, ho, Nat.zero_add, Nat.mod_mod, Nat.mod_eq_of_lt (by omega)]; omega
theorem afu {ag : Bool} {sz z : Nat} {t : Row} {o : Nat} {k : AV → aa} (h : rdV M ag sz z t o k = R) :
    ∃ v, (∀ i, i < sz → cv v i = cellAt z t (o + i) ∨ (ag = false)) ∧ ((ag = true ∧ ∃ l, v = .agg l sz) ∨ (ag = false ∧ sz = 1 ∧ v = cellAt z t o)) ∧ k v = R := by
  cases ag with
  | false =>
    obtain ⟨hs, h⟩ := ax hR h
    rw [aF] at hs
    exact ⟨_, fun _ _ => .inr rfl, .inr ⟨rfl, hs, rfl⟩, a1k ok hR h⟩
  | true =>
    rcases aM hR h with ⟨hs, h⟩ | ⟨hs, h⟩
    · rw [aF] at hs
      have g := a1k ok hR h
      refine ⟨_, fun i hi => .inl ?_, .inl ⟨rfl, .nd (cellAt z t o) .lf .lf, by rw [hs]⟩, g⟩
      have : i = 0 := by omega
      subst this; rfl
    · rcases aM hR h with ⟨hz, h⟩ | ⟨hz, h⟩
      · rw [cI, aF, aF] at hz
        obtain ⟨hzs, ho⟩ := hz
        obtain ⟨l, n, hv, g⟩ := gb hR (ok.rg hR h)
        obtain ⟨hn, g⟩ := ax hR g
        rw [aF] at hn
        refine ⟨.agg l n, fun i hi => .inl ?_, .inl ⟨rfl, l, by rw [hn]⟩, g⟩
        have hz1 : ¬ z = 1 := fun e => by rw [hzs] at e; rw [← aF, hs] at e; exact Bool.noConfusion e
        have ho' : o % z = 0 := ho
        have hv' : t.at (o / z) = .agg l n := hv
        have hd : (o + i) / z = o / z := (a1P (by omega) ho').2 ⟨by omega, by omega⟩
        have hm : (o + i) % z = i := by rw [abt ho' ⟨by omega, by omega⟩]; omega
        rw [cellAt, if_neg hz1, hd, hm, hv']; rfl
      · obtain ⟨l, hl, h⟩ := ads ok hR _ h
        exact ⟨.agg l sz, fun i hi => .inl (hl i hi), .inl ⟨rfl, _, rfl⟩, h⟩
theorem tg {v : AV} {k : AV → Bool → aa} (h : lP v k = R) : ∃ c f, Fits v 1 ∧ c = cv v 0 ∧ (f = true → c.jg = true) ∧ k c f = R := by
  have _ := ok
  cases v with
  | int k n => exact ⟨_, _, .one (by simp) (by simp) (by simp), rfl, fun _ => rfl, h⟩
  | bool b => exact ⟨_, _, .one (by simp) (by simp) (by simp), rfl, fun _ => rfl, h⟩
  | str s n => exact ⟨_, _, .one (by simp) (by simp) (by simp), rfl, fun _ => rfl, h⟩
  | ptr b o => exact ⟨_, _, .one (by simp) (by simp) (by simp), rfl, fun e => Bool.noConfusion e, h⟩
  | ms b o n z => exact ⟨_, _, .one (by simp) (by simp) (by simp), rfl, fun e => Bool.noConfusion e, h⟩
  | vs t o n z => exact ⟨_, _, .one (by simp) (by simp) (by simp), rfl, fun e => Bool.noConfusion e, h⟩
  | agg l n =>
    obtain ⟨hn, h⟩ := ax hR h
    rw [aF] at hn; subst hn
    have g := (yg hR 0 h).2
    exact ⟨_, _, .agg l 1, rfl, fun e => e, a08 g⟩
  | bB t n => exact an hR h
  | x g t a b c =>
    obtain ⟨hg, h⟩ := ax hR h
    rw [bA] at hg; rw [km] at h
    exact ⟨_, _, .one (by simp) (by simp) (by intro _ _ _ _ e; injection e with e; omega), rfl, fun e => e, h⟩
theorem a7w {sz z : Nat} {t : Row} {o : Nat} {v : AV} {k : Row → Bool → aa} (h : wrV M sz z t o v k = R) :
    ∃ t' f, Fits v sz ∧ (∀ j, cellAt z t' j = if o ≤ j ∧ j < o + sz then cv v (j - o) else cellAt z t j) ∧ (f = true → ∀ i, i < sz → (cv v i).jg = true ∨ ∃ l n, v = .agg l n ∧ len l ≤ i) ∧ k t' f = R := by
  rcases aM hR h with ⟨hs, g⟩ | ⟨hs, g⟩
  · rw [aF] at hs
    obtain ⟨c, f, hf, rfl, hp, g⟩ := tg ok hR g
    obtain ⟨t', ht, g⟩ := a8C ok hR g
    subst hs
    refine ⟨t', f, hf, fun j => ?_, fun e i hi => .inl ?_, g⟩
    · rw [ht j]
      by_cases e : j = o
      · have e2 : o ≤ j ∧ j < o + 1 := by omega
        rw [if_pos e, if_pos e2, show j - o = 0 by omega]
      · have e2 : ¬ (o ≤ j ∧ j < o + 1) := by omega
        rw [if_neg e, if_neg e2]
    · have : i = 0 := by omega
      subst this; exact hp e
  · obtain ⟨l, n, rfl, g⟩ := gb hR g
    obtain ⟨hn, g⟩ := ax hR g
    obtain ⟨h1, g⟩ := ax hR g
    rw [bA] at h1
    obtain ⟨f, hf, g⟩ := kX g
    rw [aF] at hn; subst hn
    have hfp : f = true → ∀ i, i < n → (cv (.agg l n) i).jg = true ∨ ∃ l' n', AV.agg l n = .agg l' n' ∧ len l' ≤ i := fun e i hi => by
      by_cases hl : i < len l
      · exact .inl (hf e i hl)
      · exact .inr ⟨l, n, rfl, by omega⟩
    rcases aM hR g with ⟨hz, g⟩ | ⟨hz, g⟩
    · rw [cI, aF, aF] at hz
      obtain ⟨hzn, ho⟩ := hz
      have ho : o % z = 0 := ho
      obtain ⟨t', ht, g2⟩ := ok.rs hR g
      subst hzn
      have hz1 : ¬ z = 1 := fun e => by rw [← aF, hs] at e; exact Bool.noConfusion e
      refine ⟨t', f, .agg l z, fun j => ?_, hfp, g2⟩
      have htj : t'.at (j / z) = if j / z = o / z then .agg l z else t.at (j / z) := ht (j / z)
      rw [cellAt, cellAt, if_neg hz1, if_neg hz1, htj]
      by_cases e : j / z = o / z
      · have e2 := (a1P (z := z) (by omega) ho).1 e
        have e3 := abt ho e2
        rw [if_pos e, if_pos e2, ← e3]; rfl
      · have e2 : ¬ (o ≤ j ∧ j < o + z) := fun e2 => e ((a1P (by omega) ho).2 e2)
        rw [if_neg e, if_neg e2]
    · obtain ⟨t', ht, g⟩ := wo ok hR _ g
      exact ⟨t', f, .agg l n, ht, hfp, g⟩
theorem a5g (n : Nat) : ∀ {s : Row} {o : Nat} {d : Row} {p : Nat} {k : Row → aa}, (cp M n).f s o d p k = R → ∃ d', (∀ j, d'.at j = if p ≤ j ∧ j < p + n then s.at (o + (j - p)) else d.at j) ∧ k d' = R := by
  induction n with
  | zero => intro s o d p k h; exact ⟨d, fun j => by rw [if_neg (by omega)], h⟩
  | succ n ih =>
    intro s o d p k h
    have h1 := ok.rg hR (k := fun v => M.rs.f d p v fun d' => (cp M n).f s (Nat.succ o) d' (Nat.succ p) k) h
    obtain ⟨d1, hd1, h2⟩ := ok.rs hR h1
    obtain ⟨d', hd', hk⟩ := ih h2
    refine ⟨d', fun j => ?_, hk⟩
    have hd1' : d1.at j = if j = p then s.at o else d.at j := hd1 j
    rw [hd' j, hd1']
    by_cases e : j = p
    · have e1 : ¬ (Nat.succ p ≤ j ∧ j < Nat.succ p + n) := by omega
      have e2 : p ≤ j ∧ j < p + (n + 1) := by omega
      rw [if_neg e1, if_pos e, if_pos e2, e, Nat.sub_self, Nat.add_zero]
    · by_cases e1 : Nat.succ p ≤ j ∧ j < Nat.succ p + n
      · have e2 : p ≤ j ∧ j < p + (n + 1) := by omega
        rw [if_pos e1, if_pos e2]; congr 1; omega
      · have e2 : ¬ (p ≤ j ∧ j < p + (n + 1)) := by omega
        rw [if_neg e1, if_neg e, if_neg e2]
theorem abv {z : Nat} (n : Nat) : ∀ {l t : Row} {e : Nat} {k : Row → aa}, (putE M z n).f l t e k = R → ∃ t', (∀ j, (e ≤ j ∧ j < e + n → ∃ a, t'.at j = .agg a z ∧ ∀ i, i < z → nth a i = nth l ((j - e) * z + i)) ∧ (¬ (e ≤ j ∧ j < e + n) → t'.at j = t.at j)) ∧ k t' = R := by
  induction n with
  | zero => intro l t e k h; exact ⟨t, fun j => ⟨fun hj => absurd hj (by omega), fun _ => rfl⟩, h⟩
  | succ n ih =>
    intro l t e k h
    obtain ⟨a, ⟨_, _, ha⟩, h⟩ := zg hR z (k := fun a => (a8z z).f l fun r => M.rs.f t e (.agg a z) fun t => (putE M z n).f r t (Nat.succ e) k) h
    obtain ⟨r, ⟨_, hr⟩, h⟩ := a0o hR z h
    obtain ⟨t1, ht1, h⟩ := ok.rs hR h
    obtain ⟨t', ht', hk⟩ := ih h
    refine ⟨t', fun j => ⟨fun hj => ?_, fun hj => ?_⟩, hk⟩
    · have ht1' : t1.at j = if j = e then .agg a z else t.at j := ht1 j
      by_cases e1 : j = e
      · refine ⟨a, ?_, fun i hi => ?_⟩
        · rw [(ht' j).2 (by omega), ht1', if_pos e1]
        · rw [ha i hi, e1, Nat.sub_self, Nat.zero_mul, Nat.zero_add]
      · obtain ⟨b, hb, hb2⟩ := (ht' j).1 (by omega)
        refine ⟨b, hb, fun i hi => ?_⟩
        rw [hb2 i hi, hr, show j - e = (j - Nat.succ e) + 1 by omega, Nat.succ_mul]; congr 1; omega
    · have ht1' : t1.at j = if j = e then .agg a z else t.at j := ht1 j
      rw [(ht' j).2 (by omega), ht1', if_neg (by omega)]
end
theorem a9e {z : Nat} (hz : 0 < z) {s d : Row} {o p n : Nat} (h : ∀ j, j < n → d.at (p + j) = s.at (o + j)) {i : Nat} (hi : i < n * z) : cellAt z d (p * z + i) = cellAt z s (o * z + i) := by
  by_cases h1 : z = 1
  · subst h1; rw [cellAt, cellAt, if_pos rfl, if_pos rfl, Nat.mul_one, Nat.mul_one]; exact h i (by omega)
  · have hd : i / z < n := (Nat.div_lt_iff_lt_mul hz).2 hi
    rw [cellAt, cellAt, if_neg h1, if_neg h1, Nat.mul_comm p z, Nat.mul_comm o z, Nat.mul_add_div hz, Nat.mul_add_div hz, Nat.mul_add_mod, Nat.mul_add_mod, h _ hd]
theorem a2u {z : Nat} (hz : 0 < z) {s d : Row} {i : Nat} (h : d.at (i / z) = s.at (i / z)) : cellAt z d i = cellAt z s i := by
  by_cases h1 : z = 1
  · subst h1; rw [cellAt, cellAt, if_pos rfl, if_pos rfl]; rw [Nat.div_one] at h; exact h
  · rw [cellAt, cellAt, if_neg h1, if_neg h1, h]
theorem a7i (v : AV) (n : Nat) : ∀ j, j + 1 < 2 ^ n → (Tr.full v n).at j = v := by
  induction n with
  | zero => intro j hj; exact absurd hj (by rw [Nat.pow_zero]; omega)
  | succ n ih =>
    intro j hj
    have hp : 2 ^ (n + 1) = 2 * 2 ^ n := by rw [Nat.pow_succ, Nat.mul_comm]
    cases j with
    | zero => rfl
    | succ j =>
      show (if j % 2 = 0 then (Tr.full v n).get .uu (j / 2) else (Tr.full v n).get .uu (j / 2)) = v
      rw [ite_self]
      exact ih (j / 2) (by omega)
theorem adf (n : Nat) : n < 2 ^ (depth n) := by
  have h : n + 1 < 2 ^ (Nat.log2 (n + 1) + 1) := Nat.lt_log2_self
  exact Nat.lt_of_succ_lt h
structure Mp where
  c8 : Nat
  base : Nat
  size : Nat
abbrev Mu := Nat → Option Mp
def dQ : Mu := fun _ => none
noncomputable def AV.cM : AV → Bool
  | .int .. | .bool _ | .str .. => true
  | .x g _ _ _ _ => g == 0 || jP g
  | _ => false
inductive ao (w : World) (F : Nat → Prop) : Mu → AV → Value → Prop
  | int {μ : Mu} {k n : Nat} (h : n < md k) : ao w F μ (.int k n) (.int (kd k) ((kd k).wrap n))
  | bool {μ : Mu} (b : Bool) : ao w F μ (.bool b) (.bool b)
  | str {μ : Mu} {s : ByteArray} : ao w F μ (.str (aL s.data.toList) s.size) (.string s)
  | ptr {μ : Mu} {b o : Nat} {m : Mp} (h : μ b = some m) : ao w F μ (.ptr b o) (.pointer (some ⟨m.c8, m.base + o, none⟩))
  | ms {μ : Mu} {b o n z c : Nat} {m : Mp} (h : μ b = some m) (hc : n ≤ c) (hs : m.base + o + c * z ≤ m.size) : ao w F μ (.ms b o n z) (.slice (some ⟨m.c8, m.base + o, none⟩) n c)
  | ms0 {μ : Mu} {b o z : Nat} {a : Addr} : ao w F μ (.ms b o 0 z) (.slice (some a) 0 0)
  | vs {μ : Mu} {t : Row} {o n z B off c : Nat} (us : Nat → Value) (hF : F B) (hc : n ≤ c) (hu : ∀ i, i < n * z → w.cell? ⟨B, off + i, none⟩ = some (us i)) (h1 : ∀ i, i < n * z → (us i).oneCell' = true) (h : ∀ i, i < n * z → ao w F dQ (cellAt z t (o * z + i)) (us i)) : ao w F μ (.vs t o n z) (.slice (some ⟨B, off, none⟩) n c)
  | vs0 {μ : Mu} {t : Row} {o z c : Nat} {a : Addr} : ao w F μ (.vs t o 0 z) (.slice (some a) 0 c)
  | agg {μ : Mu} {l : Row} {n : Nat} {cs : Array Value} (us : Nat → Value) (hs : cs.size = n) (hu : ∀ i, i < n → cs[i]? = some (us i)) (h1 : ∀ i, i < n → (us i).oneCell' = true) (h : ∀ i, i < n → ao w F μ (nth l i) (us i)) : ao w F μ (.agg l n) (.agg cs)
  | bB {μ : Mu} {t : Row} {n : Nat} {vs : Array Value} (us : Nat → Value) (hl : len t = vs.size) (hu : ∀ i, i < vs.size → vs[i]? = some (us i)) (h : ∀ i, i < vs.size → ao w F μ (nth t i) (us i)) : ao w F μ (.bB t n) (.tuple vs)
  | uu {μ : Mu} {t : Row} {a b c : Nat} (v : Value) : ao w F μ (.x 0 t a b c) v
  | pO {μ : Mu} {t : Row} {o n z B off : Nat} (us : Nat → Value) (hF : F B) (hu : ∀ i, i < n → w.cell? ⟨B, off + i, none⟩ = some (us i)) (h1 : ∀ i, i < n → (us i).oneCell' = true) (h : ∀ i, i < n → ao w F dQ (cellAt z t (o + i)) (us i)) : ao w F μ (.x 1 t o n z) (.pointer (some ⟨B, off, none⟩))
  | fn {μ : Mu} {t : Row} {f n m : Nat} {fs cs : Array Value} (us : Nat → Value) (h1 : fs.size = n) (h2 : cs.size = m) (h3 : len t = n + m) (hu : ∀ i, i < n → fs[i]? = some (us i)) (hv : ∀ i, i < m → cs[i]? = some (us (n + i))) (h : ∀ i, i < n + m → ao w F μ (nth t i) (us i)) : ao w F μ (.x 3 t f n m) (.func (.func f) fs cs)
  | map {μ : Mu} {t : Row} {b p c : Nat} {m : Mp} (h : μ b = some m) : ao w F μ (.x 4 t b p c) (.map (some m.c8))
  | yld {μ : Mu} {t : Row} {b p c : Nat} {m : Mp} (h : μ b = some m) : ao w F μ (.x 5 t b p c) (.func (.yield m.c8) #[] #[])
  | emp {μ : Mu} {t : Row} {a b c : Nat} {p : Addr} : ao w F μ (.x 6 t a b c) (.slice (some p) 0 0)
  | vZ {μ : Mu} {t : Row} {a b c : Nat} : ao w F μ (.x 7 t a b c) (.pointer none)
  | qK {μ : Mu} {t : Row} {a b c : Nat} : ao w F μ (.x 8 t a b c) (.slice none 0 0)
  | yA {μ : Mu} {t : Row} {a b c : Nat} : ao w F μ (.x 9 t a b c) .nilFunc
  | wK {μ : Mu} {t : Row} {a b c : Nat} : ao w F μ (.x 10 t a b c) (.map none)
  | xT {μ : Mu} {t : Row} {a b c : Nat} : ao w F μ (.x 11 t a b c) .nilIface
  | iface {μ : Mu} {t : Row} {a b c : Nat} {v : Value} (h : ao w F μ (nth t 0) v) : ao w F μ (.x 12 t a b c) (.iface a v)
theorem ao.mono {w w' : World} {F F' : Nat → Prop} (hw : ∀ B, F B → w'.heap[B]? = w.heap[B]?) (hF : ∀ B, F B → F' B) {μ : Mu} {a : AV} {v : Value} (h : ao w F μ a v) :
    ∀ {μ' : Mu}, (∀ b m, μ b = some m → μ' b = some m) → ao w' F' μ' a v := by
  have cell : ∀ B off, F B → w'.cell? ⟨B, off, none⟩ = w.cell? ⟨B, off, none⟩ := by
    intro B off hB
    simp only [World.cell?, hw B hB]
  induction h with
  | int h => intro _ _; exact .int h
  | bool b => intro _ _; exact .bool b
  | str => intro _ _; exact .str
  | ptr h => intro _ hm; exact .ptr (hm _ _ h)
  | ms h hc hs => intro _ hm; exact .ms (hm _ _ h) hc hs
  | ms0 => intro _ _; exact .ms0
  | vs us hf hc hu h1 _ ih => intro _ _; exact .vs us (hF _ hf) hc (fun i hi => (cell _ _ hf).trans (hu i hi)) h1 fun i hi => ih i hi (fun _ _ h => h)
  | vs0 => intro _ _; exact .vs0
  | agg us hs hu h1 _ ih => intro _ hm; exact .agg us hs hu h1 fun i hi => ih i hi hm
  | bB us hs hu _ ih => intro _ hm; exact .bB us hs hu fun i hi => ih i hi hm
  | uu v => intro _ _; exact .uu v
  | pO us hf hu h1 _ ih => intro _ _; exact .pO us (hF _ hf) (fun i hi => (cell _ _ hf).trans (hu i hi)) h1 fun i hi => ih i hi (fun _ _ h => h)
  | fn us h1 h2 h3 hu hv _ ih => intro _ hm; exact .fn us h1 h2 h3 hu hv fun i hi => ih i hi hm
  | map h => intro _ hm; exact .map (hm _ _ h)
  | yld h => intro _ hm; exact .yld (hm _ _ h)
  | emp => intro _ _; exact .emp
  | vZ => intro _ _; exact .vZ
  | qK => intro _ _; exact .qK
  | yA => intro _ _; exact .yA
  | wK => intro _ _; exact .wK
  | xT => intro _ _; exact .xT
  | iface _ ih => intro _ hm; exact .iface (ih hm)
theorem ao.free {w : World} {F : Nat → Prop} {μ : Mu} {a : AV} {v : Value} (h : ao w F μ a v) (hf : a.cM = true) (μ' : Mu) : ao w F μ' a v := by
  cases h with
  | int h => exact .int h
  | bool b => exact .bool b
  | str => exact .str
  | uu v => exact .uu v
  | vZ => exact .vZ
  | qK => exact .qK
  | yA => exact .yA
  | wK => exact .wK
  | xT => exact .xT
  | emp => exact .emp
  | _ => exact Bool.noConfusion hf
theorem fx {a : AV} (h : a.jg = true) : a.cM = true := by
  cases a <;> first | rfl | exact h | (simp only [AV.jg] at h; simp [AV.cM, h]) | exact Bool.noConfusion h
theorem yv : ∀ {l : Row} {i : Nat}, len l ≤ i → nth l i = .uu
  | .lf, i, _ => by cases i <;> rfl
  | .nd v a r, 0, h => absurd h (Nat.not_succ_le_zero _)
  | .nd v a r, i + 1, h => yv (l := r) (Nat.le_of_succ_le_succ h)
def vC (P : Program) (w : World) (F : Nat → Prop) (μ : Mu) (vars : Nat → List Nat) (st f i : Nat) (fr : Fr) (L : Loop) : Prop :=
  (∃ fn c ps a b, P.funcs[f]? = some fn ∧ fn.body = some c ∧ ahj i c = some (ps, a, b) ∧ L.params.toList = ps ∧ L.assign = a ∧ L.body = b) ∧ (vars f).headD 0 ≤ L.tmps.size ∧
  (∀ t j, idxOf t (vars f).tail 0 = .f j → ao w F μ (fr.at j) (L.tmps.getD t undef)) ∧
  (match st with
   | 0 => L.state = .ready ∧ L.pending = none
   | 1 => L.state = .busy
   | 2 => L.state = .done ∧ L.pending = some .ret
   | n + 3 => L.state = .done ∧ ((∃ id, n = 2 * id ∧ L.pending = some (.exit id)) ∨ (∃ l, n = 2 * l + 1 ∧ L.pending = some (.goto l))))
structure Vs where
  vars : Nat → List Nat
  nG : Nat
  G : World → Prop
  dC : ∀ w w', G w → (∀ B, B < nG → w'.heap[B]? = w.heap[B]?) → G w'
instance : CoeFun Vs fun _ => Nat → List Nat := ⟨Vs.vars⟩
structure Env where
  P : Program
  vs : Vs
abbrev Env.vars (V : Env) : Nat → List Nat := V.vs.vars
def Env.Glo (V : Env) (w : World) (F : Nat → Prop) : Prop := V.vs.G w ∧ ∀ B, B < V.vs.nG → F B
theorem Env.Glo.mono {V : Env} {w w' : World} {F F' : Nat → Prop} (h : V.Glo w F) (hk : ∀ B, F B → w'.heap[B]? = w.heap[B]?) (hF : ∀ B, F B → F' B) : V.Glo w' F' :=
  ⟨V.vs.dC w w' h.1 fun B hB => hk B (h.2 B hB), fun B hB => hF B (h.2 B hB)⟩
def kT (V : Env) (w : World) (F : Nat → Prop) (μ : Mu) (b : Nat) : bX → Prop
  | .dead => True
  | .fwd _ => False
  | .row rw fl z sz t => ∃ m c T fz, μ b = some m ∧ w.heap[m.c8]? = some (.cells c T fz) ∧ c.size = m.size ∧ (∀ i, i < sz → ∃ u, c[m.base + i]? = some u ∧ u.oneCell' = true ∧ ao w F μ (cellAt z t i) u) ∧
      (fl = true → ∀ i, i < sz → (cellAt z t i).cM = true) ∧ (rw = true → (fz.1 = fz.2 ∨ c.size ≤ fz.1) ∧ ¬ F m.c8) ∧ (rw = false → F m.c8)
  | .map n t => ∃ m es clk, μ b = some m ∧ w.heap[m.c8]? = some (.map es clk) ∧ ¬ F m.c8 ∧ es.size = n ∧ ∀ i, i < n → ∃ e, es[i]? = some e ∧ ao w F μ (t.at (2 * i)) e.key ∧ ao w F μ (t.at (2 * i + 1)) e.val
  | .loop st f i fr => ∃ m L, μ b = some m ∧ w.heap[m.c8]? = some (.loop L) ∧ ¬ F m.c8 ∧ vC V.P w F μ V.vars st f i fr L
def bX.wr : bX → Prop
  | .row rw _ _ _ _ => rw = true
  | .map _ _ | .loop _ _ _ _ => True
  | _ => False
def WB (h : Hp) (μ : Mu) (B : Nat) : Prop := ∃ b m, (h.at b).wr ∧ μ b = some m ∧ m.c8 = B
def Own (h : Hp) (μ : Mu) (B : Nat) : Prop := ∃ b m, (h.at b).wr ∧ b ∉ h.pr ∧ μ b = some m ∧ m.c8 = B
theorem Own.wb {h : Hp} {μ : Mu} {B : Nat} : Own h μ B → WB h μ B := fun ⟨b, m, hw, _, hm, hB⟩ => ⟨b, m, hw, hm, hB⟩
structure aP (V : Env) (μ : Mu) (F : Nat → Prop) (h : Hp) (w : World) : Prop where
  c8 : ∀ b, kT V w F μ b (h.at b)
  kr : ∀ b b' m m', (h.at b).wr → (h.at b').wr → b ≠ b' → μ b = some m → μ b' = some m' → m.c8 ≠ m'.c8
  nM : ∀ b m, μ b = some m → b < h.nx ∧ m.c8 < w.heap.size
  qt : ∀ B, F B → B < w.heap.size
  ve : V.Glo w F
theorem aP.a4K {V : Env} {μ : Mu} {F : Nat → Prop} {h : Hp} {w : World} (H : aP V μ F h w) {B : Nat} (hB : WB h μ B) : ¬ F B := by
  obtain ⟨b, m, hw, hm, rfl⟩ := hB
  have hb := H.c8 b
  revert hw hb
  generalize h.at b = X
  intro hw hb
  cases X with
  | dead => exact hw.elim
  | fwd i => exact hw.elim
  | row rw fl z sz t =>
    obtain ⟨m', c, T, fz, hm', _, _, _, _, h6, _⟩ := hb
    rw [hm] at hm'; cases hm'
    exact (h6 hw).2
  | map n t => obtain ⟨m', _, _, hm', _, h3, _⟩ := hb; rw [hm] at hm'; cases hm'; exact h3
  | loop st f i fr => obtain ⟨m', _, hm', _, h3, _⟩ := hb; rw [hm] at hm'; cases hm'; exact h3
def fU (w w' : World) : Prop := (w'.os, w'.tape) = (w.os, w.tape) ∧ w'.output = w.output
theorem fU.refl (w : World) : fU w w := ⟨rfl, rfl⟩
theorem fU.trans {a b c : World} (h : fU a b) (k : fU b c) : fU a c := ⟨k.1.trans h.1, k.2.trans h.2⟩
structure Ext (μ : Mu) (F : Nat → Prop) (h : Hp) (w : World) (μ' : Mu) (F' : Nat → Prop) (h' : Hp) (w' : World) : Prop where
  mu : ∀ b m, μ b = some m → μ' b = some m
  fr : ∀ B, F B → F' B
  size : w.heap.size ≤ w'.heap.size
  dC : ∀ B, B < w.heap.size → ¬ Own h μ B → w'.heap[B]? = w.heap[B]?
  own : ∀ B, Own h' μ' B → w.heap.size ≤ B ∨ Own h μ B
  wb : ∀ B, WB h' μ' B → w.heap.size ≤ B ∨ WB h μ B
  tA : ∀ B, F' B → F B ∨ w.heap.size ≤ B ∨ WB h μ B
  pd : ∀ b m, μ' b = some m → μ b = some m ∨ (μ b = none ∧ (w.heap.size ≤ m.c8 ∨ Own h μ m.c8))
  nx : h.nx ≤ h'.nx
  pr : h'.pr = h.pr
  rb : h'.rb = h.rb
  io : fU w w'
theorem Ext.refl (μ : Mu) (F : Nat → Prop) (h : Hp) (w : World) : Ext μ F h w μ F h w :=
  ⟨fun _ _ h => h, fun _ h => h, Nat.le_refl _, fun _ _ _ => rfl, fun _ h => .inr h, fun _ h => .inr h, fun _ h => .inl h, fun _ _ h => .inl h, Nat.le_refl _, rfl, rfl, .refl _⟩
theorem Ext.trans {μ μ₁ μ₂ : Mu} {F F₁ F₂ : Nat → Prop} {h h₁ h₂ : Hp} {w w₁ w₂ : World} (a : Ext μ F h w μ₁ F₁ h₁ w₁) (b : Ext μ₁ F₁ h₁ w₁ μ₂ F₂ h₂ w₂) : Ext μ F h w μ₂ F₂ h₂ w₂ where
  mu := fun x m hm => b.mu x m (a.mu x m hm)
  fr := fun B hB => b.fr B (a.fr B hB)
  size := Nat.le_trans a.size b.size
  dC := fun B hB ho => (b.dC B (Nat.lt_of_lt_of_le hB a.size) fun h1 => (a.own B h1).elim (fun h => absurd hB (Nat.not_lt.2 h)) ho).trans (a.dC B hB ho)
  own := fun B hB => (b.own B hB).elim (fun h => .inl (Nat.le_trans a.size h)) (a.own B)
  wb := fun B hB => (b.wb B hB).elim (fun h => .inl (Nat.le_trans a.size h)) (a.wb B)
  tA := fun B hB => (b.tA B hB).elim (a.tA B) fun h => h.elim (fun h => .inr (.inl (Nat.le_trans a.size h))) fun h => .inr ((a.wb B h))
  pd := fun x m hm => by
    rcases b.pd x m hm with h1 | ⟨h0, h1⟩
    · exact a.pd x m h1
    · have hn : μ x = none := by
        cases hx : μ x with
        | none => rfl
        | some y => rw [a.mu x y hx] at h0; cases h0
      exact .inr ⟨hn, h1.elim (fun h => .inl (Nat.le_trans a.size h)) fun h => a.own _ h⟩
  nx := Nat.le_trans a.nx b.nx
  pr := b.pr.trans a.pr
  rb := b.rb.trans a.rb
  io := a.io.trans b.io
theorem Ext.same {V : Env} {μ μ' : Mu} {F F' : Nat → Prop} {h h' : Hp} {w w' : World} (H : aP V μ F h w) (e : Ext μ F h w μ' F' h' w') : ∀ B, F B → w'.heap[B]? = w.heap[B]? :=
  fun B hB => e.dC B (H.qt B hB) fun ho => H.a4K ho.wb hB
theorem ao.ext {V : Env} {μ μ' : Mu} {F F' : Nat → Prop} {h h' : Hp} {w w' : World} (H : aP V μ F h w) (e : Ext μ F h w μ' F' h' w') {a : AV} {v : Value} (hc : ao w F μ a v) : ao w' F' μ' a v :=
  hc.mono (e.same H) e.fr e.mu
section
variable {V : Env} {μ μ' : Mu} {F F' : Nat → Prop} {h h' : Hp} {w w' : World}
theorem vC.mono {P : Program} {vars : Nat → List Nat} (hw : ∀ B, F B → w'.heap[B]? = w.heap[B]?) (hF : ∀ B, F B → F' B) (hm : ∀ b m, μ b = some m → μ' b = some m) {st f i : Nat} {fr : Fr} {L : Loop}
    (H : vC P w F μ vars st f i fr L) : vC P w' F' μ' vars st f i fr L :=
  ⟨H.1, H.2.1, fun t j e => (H.2.2.1 t j e).mono hw hF hm, H.2.2.2⟩
theorem kT.dC (hw : ∀ B, F B → w'.heap[B]? = w.heap[B]?) (hF : ∀ B, F B → F' B) (hm : ∀ b m, μ b = some m → μ' b = some m) {b : Nat} {X : bX}
    (hk : ∀ m, μ b = some m → w'.heap[m.c8]? = w.heap[m.c8]?) (hn : ∀ m, μ b = some m → X.wr → ¬ F m.c8 → ¬ F' m.c8) (H : kT V w F μ b X) : kT V w' F' μ' b X := by
  cases X with
  | dead => exact trivial
  | fwd i => exact H.elim
  | row rw fl z sz t =>
    obtain ⟨m, c, T, fz, h1, h2, h3, h4, h5, h6, h7⟩ := H
    exact ⟨m, c, T, fz, hm _ _ h1, (hk m h1).trans h2, h3, fun i hi => let ⟨u, hu, h1, hc⟩ := h4 i hi; ⟨u, hu, h1, hc.mono hw hF hm⟩, h5, fun e => ⟨(h6 e).1, hn m h1 e (h6 e).2⟩, fun e => hF _ (h7 e)⟩
  | map n t =>
    obtain ⟨m, es, clk, h1, h2, h3, h4, h5⟩ := H
    exact ⟨m, es, clk, hm _ _ h1, (hk m h1).trans h2, hn m h1 trivial h3, h4, fun i hi => let ⟨e, he, ha, hb⟩ := h5 i hi; ⟨e, he, ha.mono hw hF hm, hb.mono hw hF hm⟩⟩
  | loop st f i fr =>
    obtain ⟨m, L, h1, h2, h3, h4⟩ := H
    exact ⟨m, L, hm _ _ h1, (hk m h1).trans h2, hn m h1 trivial h3, h4.mono hw hF hm⟩
def dS (μ : Mu) (id : Nat) (m : Mp) : Mu := fun b => if b = id then some m else μ b
theorem bS (μ : Mu) (id : Nat) (m : Mp) : dS μ id m id = some m := if_pos rfl
theorem dX (μ : Mu) {id b : Nat} (m : Mp) (hb : b ≠ id) : dS μ id m b = μ b := if_neg hb
theorem iD {id : Nat} (m : Mp) (hid : μ id = none) : ∀ b x, μ b = some x → dS μ id m b = some x := fun b x hx => by
  rw [dX]
  · exact hx
  · rintro rfl; rw [hid] at hx; cases hx
structure fq (h : Hp) (id : Nat) (B : bX) (h' : Hp) : Prop where
  at_ : ∀ b, h'.at b = if b = id then B else h.at b
  nx : h.nx ≤ h'.nx
  pr : h'.pr = h.pr
  rb : h'.rb = h.rb
theorem fq.same {id : Nat} {B : bX} (s : fq h id B h') : h'.at id = B := by rw [s.at_, if_pos rfl]
theorem fq.ne {id b : Nat} {B : bX} (s : fq h id B h') (hb : b ≠ id) : h'.at b = h.at b := by rw [s.at_, if_neg hb]
theorem aP.new (H : aP V μ F h w) {id : Nat} {B : bX} {m : Mp} {o : Obj} (hid : μ id = none) (hw : w'.heap = w.heap.push o) (s : fq h id B h') (hn : id < h'.nx) (hm : m.c8 = w.heap.size)
    (hB : kT V w' F (dS μ id m) id B) (hio : fU w w' := by exact ⟨rfl, rfl⟩) : aP V (dS μ id m) F h' w' ∧ Ext μ F h w (dS μ id m) F h' w' := by
  have hsz : w'.heap.size = w.heap.size + 1 := by rw [hw, Array.size_push]
  have hold : ∀ B, B < w.heap.size → w'.heap[B]? = w.heap[B]? := fun B hB => by rw [hw, Array.getElem?_push, if_neg (by omega)]
  refine ⟨⟨fun b => ?_, fun b b' x x' hb hb' hne hx hx' => ?_, fun b x hx => ?_, fun B hB => by have := H.qt B hB; omega, H.ve.mono (fun B hB => hold B (H.qt B hB)) fun _ h => h⟩,
    ⟨iD m hid, fun _ h => h, by omega, fun B hB _ => hold B hB, ?_, ?_, fun _ h => .inl h, fun b x hx => ?_, s.nx, s.pr, s.rb, hio⟩⟩
  · by_cases e : b = id
    · subst e; rw [s.same]; exact hB
    · rw [s.ne e]
      exact (H.c8 b).dC (fun B hB => hold B (H.qt B hB)) (fun _ h => h) (iD m hid) (fun x hx => hold _ (H.nM b x hx).2) (fun _ _ _ h => h)
  · by_cases e : b = id
    · subst e
      rw [bS] at hx; cases hx
      rw [dX μ m (Ne.symm hne)] at hx'
      have := (H.nM b' x' hx').2; omega
    · rw [dX μ m e] at hx
      have h1 := (H.nM b x hx).2
      by_cases e' : b' = id
      · subst e'; rw [bS] at hx'; cases hx'; omega
      · rw [dX μ m e'] at hx'
        rw [s.ne e] at hb; rw [s.ne e'] at hb'
        exact H.kr b b' x x' hb hb' hne hx hx'
  · by_cases e : b = id
    · subst e; rw [bS] at hx; cases hx; exact ⟨hn, by omega⟩
    · rw [dX μ m e] at hx
      have := H.nM b x hx; have := s.nx; exact ⟨by omega, by omega⟩
  · rintro B ⟨b, x, hb, hp, hx, rfl⟩
    by_cases e : b = id
    · subst e; rw [bS] at hx; cases hx; exact .inl (by omega)
    · rw [dX μ m e] at hx; rw [s.ne e] at hb
      exact .inr ⟨b, x, hb, by rw [s.pr] at hp; exact hp, hx, rfl⟩
  · rintro B ⟨b, x, hb, hx, rfl⟩
    by_cases e : b = id
    · subst e; rw [bS] at hx; cases hx; exact .inl (by omega)
    · rw [dX μ m e] at hx; rw [s.ne e] at hb
      exact .inr ⟨b, x, hb, hx, rfl⟩
  · by_cases e : b = id
    · subst e; rw [bS] at hx; cases hx; exact .inr ⟨hid, .inl (by omega)⟩
    · rw [dX μ m e] at hx; exact .inl hx
theorem aP.set (H : aP V μ F h w) {b : Nat} {B : bX} {m : Mp} (hb : (h.at b).wr) (hp : b ∉ h.pr) (hm : μ b = some m) (hsz : w'.heap.size = w.heap.size) (hk : ∀ X, X ≠ m.c8 → w'.heap[X]? = w.heap[X]?)
    (s : fq h b B h') (hB : kT V w' F μ b B) (hio : fU w w' := by exact ⟨rfl, rfl⟩) : aP V μ F h' w' ∧ Ext μ F h w μ F h' w' := by
  have hown : Own h μ m.c8 := ⟨b, m, hb, hp, hm, rfl⟩
  have hF : ∀ X, F X → w'.heap[X]? = w.heap[X]? := fun X hX => hk X fun e => H.a4K hown.wb (e ▸ hX)
  refine ⟨⟨fun c => ?_, fun c c' x x' hc hc' hne hx hx' => ?_, fun c x hx => ?_, fun X hX => by rw [hsz]; exact H.qt X hX, H.ve.mono hF fun _ h => h⟩,
    ⟨fun _ _ h => h, fun _ h => h, by omega, fun X _ ho => hk X fun e => ho (e ▸ hown), ?_, ?_, fun _ h => .inl h, fun _ _ h => .inl h, s.nx, s.pr, s.rb, hio⟩⟩
  · by_cases e : c = b
    · subst e; rw [s.same]; exact hB
    · rw [s.ne e]
      have hc := H.c8 c
      by_cases hw : (h.at c).wr
      · exact hc.dC hF (fun _ h => h) (fun _ _ h => h) (fun x hx => hk _ (H.kr c b x m hw hb e hx hm)) (fun _ _ _ h => h)
      · revert hc hw
        generalize h.at c = X
        intro hc hw
        cases X with
        | dead => exact trivial
        | fwd i => exact hc.elim
        | map n t => exact absurd trivial hw
        | loop st f i fr => exact absurd trivial hw
        | row rw fl z sz t =>
          cases rw with
          | true => exact absurd rfl hw
          | false =>
            have hfr : ∀ x, μ c = some x → F x.c8 := fun x hx => by
              obtain ⟨y, _, _, _, hy, _, _, _, _, _, h7⟩ := hc
              rw [hx] at hy; cases hy; exact h7 rfl
            exact hc.dC hF (fun _ h => h) (fun _ _ h => h) (fun x hx => hF _ (hfr x hx)) (fun _ _ _ h => h)
  · have hwr : ∀ a, (h'.at a).wr → (h.at a).wr := fun a ha => by
      by_cases e : a = b
      · subst e; exact hb
      · rw [s.ne e] at ha; exact ha
    exact H.kr c c' x x' (hwr c hc) (hwr c' hc') hne hx hx'
  · have := H.nM c x hx; have := s.nx; exact ⟨by omega, by omega⟩
  · rintro X ⟨c, x, hc, hcp, hx, rfl⟩
    refine .inr ⟨c, x, ?_, by rw [s.pr] at hcp; exact hcp, hx, rfl⟩
    by_cases e : c = b
    · subst e; exact hb
    · rw [s.ne e] at hc; exact hc
  · rintro X ⟨c, x, hc, hx, rfl⟩
    refine .inr ⟨c, x, ?_, hx, rfl⟩
    by_cases e : c = b
    · subst e; exact hb
    · rw [s.ne e] at hc; exact hc
theorem aP.kill (H : aP V μ F h w) {b : Nat} (s : fq h b .dead h') : aP V μ F h' w ∧ Ext μ F h w μ F h' w := by
  have hwr : ∀ a, (h'.at a).wr → (h.at a).wr := fun a ha => by
    by_cases e : a = b
    · subst e; rw [s.same] at ha; exact ha.elim
    · rw [s.ne e] at ha; exact ha
  refine ⟨⟨fun c => ?_, fun c c' x x' hc hc' => H.kr c c' x x' (hwr c hc) (hwr c' hc'), fun c x hx => ?_, H.qt, H.ve⟩,
    ⟨fun _ _ h => h, fun _ h => h, Nat.le_refl _, fun _ _ _ => rfl, ?_, ?_, fun _ h => .inl h, fun _ _ h => .inl h, s.nx, s.pr, s.rb, .refl _⟩⟩
  · by_cases e : c = b
    · subst e; rw [s.same]; exact trivial
    · rw [s.ne e]; exact H.c8 c
  · have := H.nM c x hx; have := s.nx; exact ⟨by omega, by omega⟩
  · rintro X ⟨c, x, hc, hcp, hx, rfl⟩; exact .inr ⟨c, x, hwr c hc, by rw [s.pr] at hcp; exact hcp, hx, rfl⟩
  · rintro X ⟨c, x, hc, hx, rfl⟩; exact .inr ⟨c, x, hwr c hc, hx, rfl⟩
theorem aP.move (H : aP V μ F h w) {c id : Nat} {B : bX} {m m' : Mp} {h1 : Hp} (hc : (h.at c).wr) (hp : c ∉ h.pr) (hm : μ c = some m) (hid : μ id = none) (s1 : fq h c .dead h1) (s : fq h1 id B h') (hn : id < h'.nx) (hne : id ≠ c)
    (hsz : w'.heap.size = w.heap.size) (hk : ∀ X, X ≠ m.c8 → w'.heap[X]? = w.heap[X]?) (hm' : m'.c8 = m.c8) (hB : kT V w' F (dS μ id m') id B) (hio : fU w w' := by exact ⟨rfl, rfl⟩) :
    aP V (dS μ id m') F h' w' ∧ Ext μ F h w (dS μ id m') F h' w' := by
  have hown : Own h μ m.c8 := ⟨c, m, hc, hp, hm, rfl⟩
  have hF : ∀ X, F X → w'.heap[X]? = w.heap[X]? := fun X hX => hk X fun e => H.a4K hown.wb (e ▸ hX)
  have hat : ∀ b, b ≠ id → b ≠ c → h'.at b = h.at b := fun b h1 h2 => by rw [s.ne h1, s1.ne h2]
  have hcd : h'.at c = .dead := by rw [s.ne (Ne.symm hne), s1.same]
  have hwr : ∀ a, a ≠ id → (h'.at a).wr → (h.at a).wr ∧ a ≠ c := fun a ha hw => by
    by_cases e : a = c
    · subst e; rw [hcd] at hw; exact hw.elim
    · rw [hat a ha e] at hw; exact ⟨hw, e⟩
  have hpr : h'.pr = h.pr := s.pr.trans s1.pr
  have hnx : h.nx ≤ h'.nx := Nat.le_trans s1.nx s.nx
  have hmb := (H.nM c m hm).2
  refine ⟨⟨fun b => ?_, fun b b' x x' hb hb' hne' hx hx' => ?_, fun b x hx => ?_, fun X hX => by rw [hsz]; exact H.qt X hX, H.ve.mono hF fun _ h => h⟩,
    ⟨iD m' hid, fun _ h => h, by omega, fun X _ ho => hk X fun e => ho (e ▸ hown), ?_, ?_, fun _ h => .inl h, fun b x hx => ?_, hnx, hpr, s.rb.trans s1.rb, hio⟩⟩
  · by_cases e : b = id
    · subst e; rw [s.same]; exact hB
    · by_cases e2 : b = c
      · subst e2; rw [hcd]; exact trivial
      · rw [hat b e e2]
        have hb := H.c8 b
        by_cases hw : (h.at b).wr
        · exact hb.dC hF (fun _ h => h) (iD m' hid) (fun x hx => hk _ (H.kr b c x m hw hc e2 hx hm)) (fun _ _ _ h => h)
        · revert hb hw
          generalize h.at b = X
          intro hb hw
          cases X with
          | dead => exact trivial
          | fwd i => exact hb.elim
          | map n t => exact absurd trivial hw
          | loop st f i fr => exact absurd trivial hw
          | row rw fl z sz t =>
            cases rw with
            | true => exact absurd rfl hw
            | false =>
              have hfr : ∀ x, μ b = some x → F x.c8 := fun x hx => by
                obtain ⟨y, _, _, _, hy, _, _, _, _, _, h7⟩ := hb
                rw [hx] at hy; cases hy; exact h7 rfl
              exact hb.dC hF (fun _ h => h) (iD m' hid) (fun x hx => hF _ (hfr x hx)) (fun _ _ _ h => h)
  · by_cases e : b = id
    · subst e
      rw [bS] at hx; cases hx
      rw [dX μ m' (Ne.symm hne')] at hx'
      have ⟨h1, h2⟩ := hwr b' (Ne.symm hne') hb'
      rw [hm']; exact Ne.symm (H.kr b' c x' m h1 hc h2 hx' hm)
    · rw [dX μ m' e] at hx
      have ⟨h1, h2⟩ := hwr b e hb
      by_cases e' : b' = id
      · subst e'; rw [bS] at hx'; cases hx'; rw [hm']; exact H.kr b c x m h1 hc h2 hx hm
      · rw [dX μ m' e'] at hx'
        exact H.kr b b' x x' h1 (hwr b' e' hb').1 hne' hx hx'
  · by_cases e : b = id
    · subst e; rw [bS] at hx; cases hx; exact ⟨hn, by omega⟩
    · rw [dX μ m' e] at hx
      have := H.nM b x hx; exact ⟨by omega, by omega⟩
  · rintro X ⟨b, x, hb, hbp, hx, rfl⟩
    by_cases e : b = id
    · subst e; rw [bS] at hx; cases hx; rw [hm']; exact .inr hown
    · rw [dX μ m' e] at hx
      exact .inr ⟨b, x, (hwr b e hb).1, by rw [hpr] at hbp; exact hbp, hx, rfl⟩
  · rintro X ⟨b, x, hb, hx, rfl⟩
    by_cases e : b = id
    · subst e; rw [bS] at hx; cases hx; rw [hm']; exact .inr hown.wb
    · rw [dX μ m' e] at hx
      exact .inr ⟨b, x, (hwr b e hb).1, hx, rfl⟩
  · by_cases e : b = id
    · subst e; rw [bS] at hx; cases hx; exact .inr ⟨hid, .inr (hm' ▸ hown)⟩
    · rw [dX μ m' e] at hx; exact .inl hx
theorem aP.mark (H : aP V μ F h w) {b : Nat} {rw fl fl' : Bool} {z sz : Nat} {t : Row} {m : Mp} (hb : h.at b = .row rw fl z sz t) (hm : μ b = some m) (hfl : fl' = true → fl = true) (s : fq h b (.row false fl' z sz t) h') :
    aP V μ (fun B => F B ∨ B = m.c8) h' w ∧ Ext μ F h w μ (fun B => F B ∨ B = m.c8) h' w := by
  have hB := H.c8 b
  rw [hb] at hB
  obtain ⟨m', c, T, fz, h1, h2, h3, h4, h5, h6, h7⟩ := hB
  rw [hm] at h1; cases h1
  have hwb : WB h μ m.c8 ∨ F m.c8 := by
    cases rw with
    | true => exact .inl ⟨b, m, by rw [hb]; exact rfl, hm, rfl⟩
    | false => exact .inr (h7 rfl)
  have hwr : ∀ a, (h'.at a).wr → (h.at a).wr ∧ a ≠ b := fun a ha => by
    by_cases e : a = b
    · subst e; rw [s.same] at ha; exact Bool.noConfusion ha
    · rw [s.ne e] at ha; exact ⟨ha, e⟩
  refine ⟨⟨fun c' => ?_, fun c c' x x' hc hc' => H.kr c c' x x' (hwr c hc).1 (hwr c' hc').1, fun c x hx => ?_, fun B hB => hB.elim (H.qt B) fun e => e ▸ (H.nM b m hm).2, H.ve.mono (fun _ _ => rfl) fun _ h => .inl h⟩,
    ⟨fun _ _ h => h, fun _ h => .inl h, Nat.le_refl _, fun _ _ _ => rfl, ?_, ?_, fun B h => h.elim .inl fun e => hwb.elim (fun h => .inr (.inr (e ▸ h))) fun h => .inl (e ▸ h), fun _ _ h => .inl h, s.nx, s.pr, s.rb, .refl _⟩⟩
  · by_cases e : c' = b
    · subst e; rw [s.same]
      exact ⟨m, c, T, fz, hm, h2, h3, fun i hi => let ⟨u, hu, h1, hc⟩ := h4 i hi; ⟨u, hu, h1, hc.mono (fun _ _ => rfl) (fun _ h => .inl h) fun _ _ h => h⟩, fun e => h5 (hfl e), fun e => Bool.noConfusion e, fun _ => .inr rfl⟩
    · rw [s.ne e]
      refine (H.c8 c').dC (fun _ _ => rfl) (fun _ h => .inl h) (fun _ _ h => h) (fun _ _ => rfl) fun x hx hwx hnx hor => ?_
      rcases hor with q | q
      · exact hnx q
      · rcases hwb with hw | hf
        · have hbw : (h.at b).wr := by
            obtain ⟨b0, m0, hb0, hm0, hB0⟩ := hw
            rw [hb]
            cases rw with
            | true => exact rfl
            | false => exact absurd (h7 rfl) (H.a4K ⟨b0, m0, hb0, hm0, hB0⟩)
          exact H.kr c' b x m hwx hbw e hx hm q
        · exact hnx (q ▸ hf)
  · have := H.nM c x hx; have := s.nx; exact ⟨by omega, by omega⟩
  · rintro X ⟨c, x, hc, hcp, hx, rfl⟩; exact .inr ⟨c, x, (hwr c hc).1, by rw [s.pr] at hcp; exact hcp, hx, rfl⟩
  · rintro X ⟨c, x, hc, hx, rfl⟩; exact .inr ⟨c, x, (hwr c hc).1, hx, rfl⟩
theorem aP.world (H : aP V μ F h w) (hw : w'.heap = w.heap) (hio : fU w w' := by exact ⟨rfl, rfl⟩) : aP V μ F h w' ∧ Ext μ F h w μ F h w' := by
  have hk : ∀ X : Nat, w'.heap[X]? = w.heap[X]? := fun X => by rw [hw]
  exact ⟨⟨fun b => (H.c8 b).dC (fun B _ => hk B) (fun _ h => h) (fun _ _ h => h) (fun _ _ => hk _) (fun _ _ _ h => h), H.kr, fun b m hm => by rw [hw]; exact H.nM b m hm, fun B hB => by rw [hw]; exact H.qt B hB, H.ve.mono (fun B _ => hk B) fun _ h => h⟩,
    ⟨fun _ _ h => h, fun _ h => h, by rw [hw]; exact Nat.le_refl _, fun B _ _ => hk B, fun _ h => .inr h, fun _ h => .inr h, fun _ h => .inl h, fun _ _ h => .inl h, Nat.le_refl _, rfl, rfl, hio⟩⟩
end
end Go.Proofs.YtbamejikafhenaaDoor.Ev
