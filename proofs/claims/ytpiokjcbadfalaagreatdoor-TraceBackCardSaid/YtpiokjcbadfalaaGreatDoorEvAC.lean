import Derived.Test.YtpiokjcbadfalaaGreatDoorEvAB
import Derived.CallsIn
import Derived.Deep.AppendSrc
import Derived.Deep.MidRow
namespace Go.Proofs.YtpiokjcbadfalaaGreatDoor.Ev
theorem da {ρ : Type} (b : Bool) (x y : ρ) : (Bool.rec (motive := fun _=>ρ) x y b : ρ) = if b = true then y else x := by cases b <;> rfl
theorem aC (a b : Nat) : (Nat.beq a b = true) = (a = b) := propext ⟨fun h=>Nat.eq_of_beq_eq_true h,fun h=>by subst h; exact Nat.beq_refl a⟩
theorem bn (a b : Nat) : (Nat.ble a b = true) = (a ≤ b) := propext ⟨fun h=>Nat.le_of_ble_eq_true h,fun h=>Nat.ble_eq_true_of_le h⟩
theorem bR (a b : Bool) : (bp a b = true) = (a = true ∧ b = true) := by cases a <;> cases b <;> simp [bp]
theorem fq (a : Bool) : de a = !a := by cases a <;> rfl
theorem vC (a b : Bool) : a0M a b = (a != b) := by cases a <;> cases b <;> rfl
theorem az (n : Nat) (k : Nat → ab) : aL n k = k n := by cases n <;> rfl
theorem jT (b : Bool) (k : Bool → ab) : iF b k = k b := by cases b <;> rfl
theorem aaU (b : Bool) (x y : ab) : when b x y = if b = true then x else y := by cases b <;> rfl
section out
variable {R : ab} (hR : R ≠ .fail)
include hR
theorem ah {α : Prop} (h : ab.fail = R) : α := absurd h.symm hR
theorem an {b : Bool} {x : ab} (h : au b x = R) : b = true ∧ x = R := by
  cases b
  · exact ah hR h
  · exact ⟨rfl,h⟩
theorem aK {b : Bool} {x y : ab} (h : when b x y = R) : (b = true ∧ x = R) ∨ (b = false ∧ y = R) := by
  have _ := hR
  cases b
  · exact .inr ⟨rfl,h⟩
  · exact .inl ⟨rfl,h⟩
theorem cF {v : AV} {f : Nat → Nat → ab} (h : v.bO f = R) : ∃ i n,v = .int i n ∧ f i n = R := by
  cases v <;> first | exact ⟨_,_,rfl,h⟩ | exact ah hR h
theorem kG {v : AV} {f : Bool → ab} (h : v.aJ f = R) : ∃ b,v = .bool b ∧ f b = R := by
  cases v <;> first | exact ⟨_,rfl,h⟩ | exact ah hR h
theorem bW {v : AV} {f : Nat → Nat → ab} (h : v.eE f = R) : ∃ s n,v = .str s n ∧ f s n = R := by
  cases v <;> first | exact ⟨_,_,rfl,h⟩ | exact ah hR h
theorem fS {v : AV} {f : Row → Nat → ab} (h : v.ja f = R) : ∃ t n,v = .agg t n ∧ f t n = R := by
  cases v <;> first | exact ⟨_,_,rfl,h⟩ | exact ah hR h
theorem acg {v : AV} {f : Row → Nat → ab} (h : v.xJ f = R) : ∃ t n,v = .bu t n ∧ f t n = R := by
  cases v <;> first | exact ⟨_,_,rfl,h⟩ | exact ah hR h
theorem n7 {v : AV} {f : Nat → Row → Nat → Nat → Nat → ab} (h : v.onX f = R) : ∃ g t a b c,v = .x g t a b c ∧ f g t a b c = R := by
  cases v <;> first | exact ⟨_,_,_,_,_,rfl,h⟩ | exact ah hR h
theorem jX {v : AV} {f : Nat → Nat → ab} {g : Row → Nat → Nat → Nat → ab} (h : v.qe f g = R) : (∃ b o,v = .ptr b o ∧ f b o = R) ∨ (∃ t a b c,v = .x 1 t a b c ∧ g t a b c = R) := by
  cases v <;> first | exact .inl ⟨_,_,rfl,h⟩ | (exact ah hR h) | skip
  rename_i i t a b c
  by_cases hi : i = 1
  · subst hi; exact .inr ⟨_,_,_,_,rfl,h⟩
  · have : Nat.beq i 1 = false := by cases hb : Nat.beq i 1 with | false=>rfl | true=>exact absurd (Nat.eq_of_beq_eq_true hb) hi
    have h' : (Bool.rec (motive := fun _=>ab) .fail (g t a b c) (Nat.beq i 1) : ab) = R := h
    rw [this] at h'; exact ah hR h'
theorem eV {v : AV} {f : Nat → Nat → Nat → Nat → ab} {r : Row → Nat → Nat → Nat → ab} {z : Nat → ab} {s : Nat → Nat → ab} (h : v.eD f r z s = R) :
    (∃ b o n y,v = .ms b o n y ∧ f b o n y = R) ∨ (∃ t o n y,v = .vs t o n y ∧ r t o n y = R) ∨ (∃ i t a b c,v = .x i t a b c ∧ z i = R) ∨ (∃ x n,v = .str x n ∧ s x n = R) := by
  cases v <;> first | exact .inl ⟨_,_,_,_,rfl,h⟩ | exact .inr (.inl ⟨_,_,_,_,rfl,h⟩) | exact .inr (.inr (.inl ⟨_,_,_,_,_,rfl,h⟩)) | exact .inr (.inr (.inr ⟨_,_,rfl,h⟩)) | exact ah hR h
theorem tU {B : bN} {f : Bool → Bool → Nat → Nat → Row → ab} (h : B.ma f = R) : ∃ rw fl z s t,B = .row rw fl z s t ∧ f rw fl z s t = R := by
  cases B <;> first | exact ⟨_,_,_,_,_,rfl,h⟩ | exact ah hR h
theorem lZ {B : bN} {f : Nat → Row → ab} (h : B.kY f = R) : ∃ n t,B = .map n t ∧ f n t = R := by
  cases B <;> first | exact ⟨_,_,rfl,h⟩ | exact ah hR h
theorem mZ {B : bN} {f : Nat → Nat → Nat → Fr → ab} (h : B.tT f = R) : ∃ s g i fr,B = .loop s g i fr ∧ f s g i fr = R := by
  cases B <;> first | exact ⟨_,_,_,_,rfl,h⟩ | exact ah hR h
end out
def Tr.get {α : Type} (d : α) : Tr α → Nat → α
  | .lf,_=>d
  | .nd v l r,i=>match i with | 0=>v | j + 1=>if j % 2 = 0 then Tr.get d l (j / 2) else Tr.get d r (j / 2)
abbrev Tr.at (t : Row) (i : Nat) : AV := t.get .uu i
abbrev Hp.at (h : Hp) (b : Nat) : bN := h.t.get .dead b
theorem qs {α : Type} (d : α) (i : Nat) : (Tr.lf : Tr α).get d i = d := by cases i <;> rfl
theorem j7 {α : Type} (d v : α) (l r : Tr α) (j : Nat) : (Tr.nd v l r).get d (j + 1) = if j % 2 = 0 then l.get d (j / 2) else r.get d (j / 2) := rfl
def iV {α : Type} (d : α) (t : Tr α) (i : Nat) (x : α) (t' : Tr α) : Prop := ∀ j,t'.get d j = if j = i then x else t.get d j
theorem vu (j : Nat) : j % 2 = 0 ∨ j % 2 = 1 := by omega
theorem aer {R : ab} (hR : R ≠ .fail) {α : Type} (d : α) (n : Nat) : ∀ {t : Tr α} {i : Nat} {k : α → ab},(gk d n).f t i k = R → k (t.get d i) = R := by
  induction n with
  | zero=>intro t i k h; exact ah hR h
  | succ n ih=>
    intro t i k h
    cases t with
    | lf=>rw [qs]; exact h
    | nd v l r=>
      cases i with
      | zero=>exact h
      | succ j=>
        rw [j7]
        rcases vu j with hj | hj
        · rw [if_pos hj]
          have h' : (Nat.rec (motive := fun _=>ab) ((gk d n).f l (Nat.div j 2) k) (fun _ _=>(gk d n).f r (Nat.div j 2) k) (j % 2) : ab) = R := h
          rw [hj] at h'; exact ih h'
        · rw [if_neg (by omega)]
          have h' : (Nat.rec (motive := fun _=>ab) ((gk d n).f l (Nat.div j 2) k) (fun _ _=>(gk d n).f r (Nat.div j 2) k) (j % 2) : ab) = R := h
          rw [hj] at h'; exact ih h'
theorem oY {α : Type} {d v x : α} {l l' r : Tr α} {j : Nat} (hj : j % 2 = 0) (h : iV d l (j / 2) x l') : iV d (.nd v l r) (j + 1) x (.nd v l' r) := by
  intro i
  cases i with
  | zero=>rw [if_neg (by omega)]; rfl
  | succ i=>
    rw [j7,j7]
    rcases vu i with hi | hi
    · simp only [hi,if_true,h (i / 2)]
      by_cases e : i = j
      · subst e; simp
      · have e1 : ¬ i / 2 = j / 2 := by omega
        have e2 : ¬ i + 1 = j + 1 := by omega
        simp only [e1,e2,if_false]
    · have h1 : ¬ i % 2 = 0 := by omega
      have e2 : ¬ i + 1 = j + 1 := by omega
      simp only [h1,e2,if_false]
theorem mi {α : Type} {d v x : α} {l r r' : Tr α} {j : Nat} (hj : j % 2 = 1) (h : iV d r (j / 2) x r') : iV d (.nd v l r) (j + 1) x (.nd v l r') := by
  intro i
  cases i with
  | zero=>rw [if_neg (by omega)]; rfl
  | succ i=>
    rw [j7,j7]
    rcases vu i with hi | hi
    · have e2 : ¬ i + 1 = j + 1 := by omega
      simp only [hi,if_true,e2,if_false]
    · have h1 : ¬ i % 2 = 0 := by omega
      simp only [h1,if_false,h (i / 2)]
      by_cases e : i = j
      · subst e; simp
      · have e1 : ¬ i / 2 = j / 2 := by omega
        have e2 : ¬ i + 1 = j + 1 := by omega
        simp only [e1,e2,if_false]
theorem qR {α : Type} {d x : α} {t' : Tr α} {i : Nat} (h : iV d (.nd d .lf .lf) i x t') : iV d .lf i x t' := by
  intro j; rw [h j]
  by_cases e : j = i
  · simp [e]
  · rw [if_neg e,if_neg e]
    cases j with
    | zero=>rfl
    | succ j=>rw [j7]; simp only [qs,ite_self]
theorem ahs {R : ab} (hR : R ≠ .fail) {α : Type} (d : α) (n : Nat) : ∀ {t : Tr α} {i : Nat} {x : α} {k : Tr α → ab},(sk d n).f t i x k = R → ∃ t',iV d t i x t' ∧ k t' = R := by
  induction n with
  | zero=>intro t i x k h; exact ah hR h
  | succ n ih=>
    intro t i x k h
    cases t with
    | lf=>
      cases i with
      | zero=>exact ⟨_,qR (fun j=>by cases j <;> rfl),h⟩
      | succ j=>
        have h' : (Nat.rec (motive := fun _=>ab) ((sk d n).f .lf (Nat.div j 2) x fun l=>k (.nd d l .lf)) (fun _ _=>(sk d n).f .lf (Nat.div j 2) x fun r=>k (.nd d .lf r)) (j % 2) : ab) = R := h
        rcases vu j with hj | hj
        · rw [hj] at h'; obtain ⟨l,hl,hk⟩ := ih h'; exact ⟨_,qR (oY hj hl),hk⟩
        · rw [hj] at h'; obtain ⟨r,hr,hk⟩ := ih h'; exact ⟨_,qR (mi hj hr),hk⟩
    | nd v l r=>
      cases i with
      | zero=>exact ⟨_,fun j=>by cases j <;> rfl,h⟩
      | succ j=>
        have h' : (Nat.rec (motive := fun _=>ab) ((sk d n).f l (Nat.div j 2) x fun l'=>k (.nd v l' r)) (fun _ _=>(sk d n).f r (Nat.div j 2) x fun r'=>k (.nd v l r')) (j % 2) : ab) = R := h
        rcases vu j with hj | hj
        · rw [hj] at h'; obtain ⟨l',hl,hk⟩ := ih h'; exact ⟨_,oY hj hl,hk⟩
        · rw [hj] at h'; obtain ⟨r',hr,hk⟩ := ih h'; exact ⟨_,mi hj hr,hk⟩
structure cL (M : Mem) : Prop where
  rg : ∀ {R : ab},R ≠ .fail → ∀ {t : Row} {i : Nat} {k : AV → ab},M.rg.f t i k = R → k (t.at i) = R
  rs : ∀ {R : ab},R ≠ .fail → ∀ {t : Row} {i : Nat} {x : AV} {k : Row → ab},M.rs.f t i x k = R → ∃ t',iV .uu t i x t' ∧ k t' = R
  hg : ∀ {R : ab},R ≠ .fail → ∀ {t : Tr bN} {i : Nat} {k : bN → ab},M.hg.f t i k = R → k (t.get .dead i) = R
  hs : ∀ {R : ab},R ≠ .fail → ∀ {t : Tr bN} {i : Nat} {x : bN} {k : Tr bN → ab},M.hs.f t i x k = R → ∃ t',iV .dead t i x t' ∧ k t' = R
theorem oL : cL mem := ⟨fun hR _ _ _ h=>aer hR _ 24 h,fun hR _ _ _ _ h=>ahs hR _ 24 h,fun hR _ _ _ h=>aer hR _ 24 h,fun hR _ _ _ _ h=>ahs hR _ 24 h⟩
def Fr.at : Fr → Nat → AV
  | .e,_=>.uu
  | .n a b c d x f g h r,i=>match i with | 0=>a | 1=>b | 2=>c | 3=>d | 4=>x | 5=>f | 6=>g | 7=>h | j + 8=>Fr.at r j
theorem a3r {R : ab} (hR : R ≠ .fail) : ∀ (i : Nat) {sk : Row} {fr : Fr} {k : AV → ab},(fget i).get sk fr k = R → k (fr.at i) = R
  | 0,_,fr,_,h | 1,_,fr,_,h | 2,_,fr,_,h | 3,_,fr,_,h | 4,_,fr,_,h | 5,_,fr,_,h | 6,_,fr,_,h | 7,_,fr,_,h=>by cases fr <;> first | exact h | exact ah hR h
  | i + 8,_,fr,_,h=>by
    cases fr with
    | e=>exact ah hR h
    | n a b c d e f g hh r=>exact a3r hR i (fr := r) h
def FSet (fr : Fr) (i : Nat) (x : AV) (fr' : Fr) : Prop := ∀ j,fr'.at j = if j = i then x else fr.at j
theorem rN {R : ab} (hR : R ≠ .fail) : ∀ (i : Nat) {fr : Fr} {x : AV} {k : Fr → ab},(abA i).f fr x k = R → ∃ fr',FSet fr i x fr' ∧ k fr' = R
  | 0,fr,x,k,h | 1,fr,x,k,h | 2,fr,x,k,h | 3,fr,x,k,h | 4,fr,x,k,h | 5,fr,x,k,h | 6,fr,x,k,h | 7,fr,x,k,h=>by
    cases fr with
    | e=>exact ah hR h
    | n a b c d e f g hh r=>
      refine ⟨_,fun j=>?_,h⟩
      rcases j with _ | _ | _ | _ | _ | _ | _ | _ | j <;> rfl
  | i + 8,fr,x,k,h=>by
    cases fr with
    | e=>exact ah hR h
    | n a b c d e f g hh r=>
      obtain ⟨r',hr,hk⟩ := rN hR i (fr := r) h
      refine ⟨_,fun j=>?_,hk⟩
      rcases j with _ | _ | _ | _ | _ | _ | _ | _ | j
      iterate 8 rfl
      show r'.at j = if j + 8 = i + 8 then x else r.at j
      rw [hr j]
      by_cases e : j = i
      · simp [e]
      · rw [if_neg e,if_neg (by omega)]
def nth : Row → Nat → AV
  | .lf,_=>.uu
  | .nd v _ r,i=>match i with | 0=>v | j + 1=>nth r j
def len : Row → Nat
  | .lf=>0
  | .nd _ _ r=>len r + 1
theorem yf {R : ab} (hR : R ≠ .fail) : ∀ (i : Nat) {sk : Row} {fr : Fr} {k : AV → ab},(a5N i).get sk fr k = R → i < len sk ∧ k (nth sk i) = R
  | 0,sk,_,_,h=>by cases sk <;> first | exact ah hR h | exact ⟨Nat.succ_pos _,h⟩
  | i + 1,sk,fr,_,h=>by
    cases sk with
    | lf=>exact ah hR h
    | nd v l r=>obtain ⟨h1,h2⟩ := yf hR i (sk := r) (fr := fr) h; exact ⟨Nat.succ_lt_succ h1,h2⟩
theorem xo {R : ab} (hR : R ≠ .fail) (i : Nat) : ∀ {t : Row} {k : AV → ab},(yS i).f t k = R → i < len t ∧ k (nth t i) = R := by
  induction i with
  | zero=>intro t k h; cases t <;> first | exact ah hR h | exact ⟨Nat.succ_pos _,h⟩
  | succ i ih=>
    intro t k h
    cases t with
    | lf=>exact ah hR h
    | nd v l r=>obtain ⟨h1,h2⟩ := ih (t := r) h; exact ⟨Nat.succ_lt_succ h1,h2⟩
def LSet (l : Row) (i : Nat) (x : AV) (l' : Row) : Prop := i < len l ∧ len l' = len l ∧ ∀ j,nth l' j = if j = i then x else nth l j
theorem xr {R : ab} (hR : R ≠ .fail) (i : Nat) : ∀ {t : Row} {x : AV} {k : Row → ab},(yT i).f t x k = R → ∃ t',LSet t i x t' ∧ k t' = R := by
  induction i with
  | zero=>
    intro t x k h
    cases t with
    | lf=>exact ah hR h
    | nd v l r=>exact ⟨.nd x .lf r,⟨Nat.succ_pos _,rfl,fun j=>by cases j <;> rfl⟩,h⟩
  | succ i ih=>
    intro t x k h
    cases t with
    | lf=>exact ah hR h
    | nd v l r=>
      obtain ⟨r',⟨h1,h2,h3⟩,hk⟩ := ih (t := r) h
      refine ⟨_,⟨Nat.succ_lt_succ h1,congrArg (· + 1) h2,fun j=>?_⟩,hk⟩
      cases j with
      | zero=>rfl
      | succ j=>
        show nth r' j = if j + 1 = i + 1 then x else nth r j
        rw [h3 j]
        by_cases e : j = i
        · simp [e]
        · rw [if_neg e,if_neg (by omega)]
theorem zW {R : ab} (hR : R ≠ .fail) (n : Nat) : ∀ {t : Row} {k : Row → ab},(a9F n).f t k = R → ∃ t',(n + len t' = len t ∧ ∀ j,nth t' j = nth t (n + j)) ∧ k t' = R := by
  induction n with
  | zero=>intro t k h; exact ⟨t,⟨Nat.zero_add _,fun j=>by rw [Nat.zero_add]⟩,h⟩
  | succ n ih=>
    intro t k h
    cases t with
    | lf=>exact ah hR h
    | nd v l r=>
      obtain ⟨t',⟨h1,h2⟩,hk⟩ := ih (t := r) h
      refine ⟨t',⟨?_,fun j=>?_⟩,hk⟩
      · show n + 1 + len t' = len r + 1; omega
      · rw [h2 j,show n + 1 + j = n + j + 1 by omega]; rfl
theorem a00 {R : ab} (hR : R ≠ .fail) (n : Nat) : ∀ {t : Row} {k : Row → ab},(afJ n).f t k = R → ∃ t',(len t' = n ∧ n ≤ len t ∧ ∀ j,j < n → nth t' j = nth t j) ∧ k t' = R := by
  induction n with
  | zero=>intro t k h; exact ⟨.lf,⟨rfl,Nat.zero_le _,fun j hj=>absurd hj (by omega)⟩,h⟩
  | succ n ih=>
    intro t k h
    cases t with
    | lf=>exact ah hR h
    | nd v l r=>
      obtain ⟨t',⟨h1,h2,h3⟩,hk⟩ := ih (t := r) (k := fun r=>k (.nd v .lf r)) h
      refine ⟨_,⟨congrArg (· + 1) h1,Nat.succ_le_succ h2,fun j hj=>?_⟩,hk⟩
      cases j with
      | zero=>rfl
      | succ j=>exact h3 j (by omega)
noncomputable def AV.iQ : AV → Bool
  | .int .. | .bool _ | .str .. => true
  | .x g _ _ _ _=>jv g
  | _=>false
theorem a0d {R : ab} {v : AV} {k : Bool → ab} (h : v.plain k = R) : k v.iQ = R := by
  cases v <;> first | exact h | (have h' : iF (jv _) k = R := h; rw [jT] at h'; exact h')
theorem kB {R : ab} {k : Bool → ab} : ∀ {l : Row},eR l k = R → ∃ b,(b = true → ∀ i,i < len l → (nth l i).iQ = true) ∧ k b = R
  | .lf,h=>⟨true,fun _ i hi=>absurd hi (Nat.not_lt_zero _),h⟩
  | .nd v a r,h=>by
    have h' : when v.iQ (eR r k) (k false) = R := a0d h
    rw [aaU] at h'
    by_cases hv : v.iQ = true
    · rw [if_pos hv] at h'
      obtain ⟨b,hb,hk⟩ := kB (l := r) h'
      refine ⟨b,fun e i hi=>?_,hk⟩
      cases i with
      | zero=>exact hv
      | succ i=>exact hb e i (by have : i + 1 < len r + 1 := hi; omega)
    · rw [if_neg hv] at h'; exact ⟨false,fun e=>Bool.noConfusion e,h'⟩
end Go.Proofs.YtpiokjcbadfalaaGreatDoor.Ev
namespace Go.Proofs.YtpiokjcbadfalaaGreatDoor.Ev
def elc : AV → Nat → AV
  | .agg l _,j=>nth l j
  | _,_=>.uu
def cellAt (z : Nat) (t : Row) (i : Nat) : AV := if z = 1 then t.at i else elc (t.at (i / z)) (i % z)
def cv : AV → Nat → AV
  | .agg l _,i=>nth l i
  | v,_=>v
inductive Fits : AV → Nat → Prop
  | agg (l : Row) (n : Nat) : Fits (.agg l n) n
  | one {v : AV} (h1 : ∀ l n,v ≠ .agg l n) (h2 : ∀ t n,v ≠ .bu t n) (h3 : ∀ t a b c,v ≠ .x 0 t a b c) : Fits v 1
section
variable {M : Mem} (ok : cL M) {R : ab} (hR : R ≠ .fail)
include ok hR
theorem a1I {z : Nat} {t : Row} {i : Nat} {k : AV → ab} (h : rdC M z t i k = R) : k (cellAt z t i) = R := by
  rcases aK hR h with ⟨hz,h⟩ | ⟨hz,h⟩
  · rw [aC] at hz; rw [cellAt,if_pos hz]; exact ok.rg hR h
  · have hz' : ¬ z = 1 := fun e=>by rw [← aC,hz] at e; exact Bool.noConfusion e
    obtain ⟨l,n,hv,h⟩ := fS hR (ok.rg hR h)
    have hv' : t.at (i / z) = .agg l n := hv
    rw [cellAt,if_neg hz',hv']
    exact (xo hR _ h).2
def CSet (z : Nat) (t : Row) (i : Nat) (c : AV) (t' : Row) : Prop := ∀ j,cellAt z t' j = if j = i then c else cellAt z t j
theorem aaV {z : Nat} {t : Row} {i : Nat} {c : AV} {k : Row → ab} (h : wrC M z t i c k = R) : ∃ t',CSet z t i c t' ∧ k t' = R := by
  rcases aK hR h with ⟨hz,h⟩ | ⟨hz,h⟩
  · rw [aC] at hz
    obtain ⟨t',ht,hk⟩ := ok.rs hR h
    refine ⟨t',fun j=>?_,hk⟩
    rw [cellAt,cellAt,if_pos hz,if_pos hz]; exact ht j
  · have hz' : ¬ z = 1 := fun e=>by rw [← aC,hz] at e; exact Bool.noConfusion e
    obtain ⟨l,n,hv,h⟩ := fS hR (ok.rg hR h)
    have hv' : t.at (i / z) = .agg l n := hv
    obtain ⟨l',⟨_,_,hl⟩,h⟩ := xr hR _ h
    obtain ⟨t',ht,hk⟩ := ok.rs hR h
    refine ⟨t',fun j=>?_,hk⟩
    rw [cellAt,cellAt,if_neg hz',if_neg hz']
    have htj : t'.at (j / z) = if j / z = i / z then .agg l' n else t.at (j / z) := ht (j / z)
    rw [htj]
    by_cases e : j / z = i / z
    · rw [if_pos e,e,hv']
      show nth l' (j % z) = if j = i then c else nth l (j % z)
      rw [hl (j % z)]
      by_cases e2 : j = i
      · subst e2; rw [if_pos rfl]; exact if_pos rfl
      · have e3 : ¬ j % z = i % z := fun e3=>e2 (by rw [← Nat.div_add_mod j z,← Nat.div_add_mod i z,e,e3])
        rw [if_neg e2]; exact if_neg e3
    · have e2 : ¬ j = i := fun e2=>e (by rw [e2])
      rw [if_neg e,if_neg e2]
theorem aeq {z : Nat} {t : Row} (n : Nat) : ∀ {o : Nat} {k : Row → ab},(getC M z n).f t o k = R → ∃ l,(∀ j,j < n → nth l j = cellAt z t (o + j)) ∧ k l = R := by
  induction n with
  | zero=>intro o k h; exact ⟨.lf,fun j hj=>absurd hj (Nat.not_lt_zero _),h⟩
  | succ n ih=>
    intro o k h
    have h1 := a1I ok hR (k := fun v=>(getC M z n).f t (Nat.succ o) fun r=>k (.nd v .lf r)) h
    obtain ⟨l,hl,hk⟩ := ih h1
    refine ⟨_,fun j hj=>?_,hk⟩
    cases j with
    | zero=>rfl
    | succ j=>show nth l j = _; rw [hl j (by omega)]; congr 1; omega
theorem xP {z : Nat} (n : Nat) : ∀ {l t : Row} {o : Nat} {k : Row → ab},(nR M z n).f l t o k = R → ∃ t',(∀ j,cellAt z t' j = if o ≤ j ∧ j < o + n then nth l (j - o) else cellAt z t j) ∧ k t' = R := by
  induction n with
  | zero=>intro l t o k h; exact ⟨t,fun j=>by rw [if_neg (by omega)],h⟩
  | succ n ih=>
    intro l t o k h
    cases l with
    | lf=>exact ah hR h
    | nd v a r=>
      obtain ⟨t1,ht1,h⟩ := aaV ok hR (k := fun t=>(nR M z n).f r t (Nat.succ o) k) h
      obtain ⟨t',ht',hk⟩ := ih h
      refine ⟨t',fun j=>?_,hk⟩
      rw [ht' j,ht1 j]
      by_cases e : j = o
      · have e1 : ¬ (Nat.succ o ≤ j ∧ j < Nat.succ o + n) := by omega
        have e2 : o ≤ j ∧ j < o + (n + 1) := by omega
        rw [if_neg e1,if_pos e,if_pos e2,e,Nat.sub_self]; rfl
      · by_cases e1 : Nat.succ o ≤ j ∧ j < Nat.succ o + n
        · have e2 : o ≤ j ∧ j < o + (n + 1) := by omega
          rw [if_pos e1,if_pos e2,show j - o = (j - Nat.succ o) + 1 by omega]; rfl
        · have e2 : ¬ (o ≤ j ∧ j < o + (n + 1)) := by omega
          rw [if_neg e1,if_neg e,if_neg e2]
omit ok hR in
theorem a11 {z o j : Nat} (hz : 0 < z) (ho : o % z = 0) : j / z = o / z ↔ o ≤ j ∧ j < o + z := by
  have h1 : o / z * z = o := Nat.div_mul_cancel (Nat.dvd_of_mod_eq_zero ho)
  constructor
  · intro e
    have h2 := Nat.div_add_mod j z
    have h3 := Nat.mod_lt j hz
    rw [e,Nat.mul_comm,h1] at h2; omega
  · intro ⟨a,b⟩
    exact Nat.div_eq_of_lt_le (by omega) (by rw [Nat.succ_mul]; omega)
omit ok hR in
theorem afM {z o j : Nat} (ho : o % z = 0) (h : o ≤ j ∧ j < o + z) : j % z = j - o := by
  obtain ⟨d,rfl⟩ : ∃ d,j = o + d := ⟨j - o,by omega⟩
  rw [Nat.add_mod,ho,Nat.zero_add,Nat.mod_mod,Nat.mod_eq_of_lt (by omega)]; omega
theorem aka {ag : Bool} {sz z : Nat} {t : Row} {o : Nat} {k : AV → ab} (h : rdV M ag sz z t o k = R) :
    ∃ v,(∀ i,i < sz → cv v i = cellAt z t (o + i) ∨ (ag = false)) ∧ ((ag = true ∧ ∃ l,v = .agg l sz) ∨ (ag = false ∧ sz = 1 ∧ v = cellAt z t o)) ∧ k v = R := by
  cases ag with
  | false=>
    obtain ⟨hs,h⟩ := an hR h
    rw [aC] at hs
    exact ⟨_,fun _ _=>.inr rfl,.inr ⟨rfl,hs,rfl⟩,a1I ok hR h⟩
  | true=>
    rcases aK hR h with ⟨hs,h⟩ | ⟨hs,h⟩
    · rw [aC] at hs
      have g := a1I ok hR h
      refine ⟨_,fun i hi=>.inl ?_,.inl ⟨rfl,.nd (cellAt z t o) .lf .lf,by rw [hs]⟩,g⟩
      have : i = 0 := by omega
      subst this; rfl
    · rcases aK hR h with ⟨hz,h⟩ | ⟨hz,h⟩
      · rw [bR,aC,aC] at hz
        obtain ⟨hzs,ho⟩ := hz
        obtain ⟨l,n,hv,g⟩ := fS hR (ok.rg hR h)
        obtain ⟨hn,g⟩ := an hR g
        rw [aC] at hn
        refine ⟨.agg l n,fun i hi=>.inl ?_,.inl ⟨rfl,l,by rw [hn]⟩,g⟩
        have hz1 : ¬ z = 1 := fun e=>by rw [hzs] at e; rw [← aC,hs] at e; exact Bool.noConfusion e
        have ho' : o % z = 0 := ho
        have hv' : t.at (o / z) = .agg l n := hv
        have hd : (o + i) / z = o / z := (a11 (by omega) ho').2 ⟨by omega,by omega⟩
        have hm : (o + i) % z = i := by rw [afM ho' ⟨by omega,by omega⟩]; omega
        rw [cellAt,if_neg hz1,hd,hm,hv']; rfl
      · obtain ⟨l,hl,h⟩ := aeq ok hR _ h
        exact ⟨.agg l sz,fun i hi=>.inl (hl i hi),.inl ⟨rfl,_,rfl⟩,h⟩
theorem tA {v : AV} {k : AV → Bool → ab} (h : lK v k = R) : ∃ c f,Fits v 1 ∧ c = cv v 0 ∧ (f = true → c.iQ = true) ∧ k c f = R := by
  have _ := ok
  cases v with
  | int k n=>exact ⟨_,_,.one (by simp) (by simp) (by simp),rfl,fun _=>rfl,h⟩
  | bool b=>exact ⟨_,_,.one (by simp) (by simp) (by simp),rfl,fun _=>rfl,h⟩
  | str s n=>exact ⟨_,_,.one (by simp) (by simp) (by simp),rfl,fun _=>rfl,h⟩
  | ptr b o=>exact ⟨_,_,.one (by simp) (by simp) (by simp),rfl,fun e=>Bool.noConfusion e,h⟩
  | ms b o n z=>exact ⟨_,_,.one (by simp) (by simp) (by simp),rfl,fun e=>Bool.noConfusion e,h⟩
  | vs t o n z=>exact ⟨_,_,.one (by simp) (by simp) (by simp),rfl,fun e=>Bool.noConfusion e,h⟩
  | agg l n=>
    obtain ⟨hn,h⟩ := an hR h
    rw [aC] at hn; subst hn
    have g := (xo hR 0 h).2
    exact ⟨_,_,.agg l 1,rfl,fun e=>e,a0d g⟩
  | bu t n=>exact ah hR h
  | x g t a b c=>
    obtain ⟨hg,h⟩ := an hR h
    rw [bn] at hg; rw [jT] at h
    exact ⟨_,_,.one (by simp) (by simp) (by intro _ _ _ _ e; injection e with e; omega),rfl,fun e=>e,h⟩
theorem aaW {sz z : Nat} {t : Row} {o : Nat} {v : AV} {k : Row → Bool → ab} (h : wrV M sz z t o v k = R) :
    ∃ t' f,Fits v sz ∧ (∀ j,cellAt z t' j = if o ≤ j ∧ j < o + sz then cv v (j - o) else cellAt z t j) ∧ (f = true → ∀ i,i < sz → (cv v i).iQ = true ∨ ∃ l n,v = .agg l n ∧ len l ≤ i) ∧ k t' f = R := by
  rcases aK hR h with ⟨hs,g⟩ | ⟨hs,g⟩
  · rw [aC] at hs
    obtain ⟨c,f,hf,rfl,hp,g⟩ := tA ok hR g
    obtain ⟨t',ht,g⟩ := aaV ok hR g
    subst hs
    refine ⟨t',f,hf,fun j=>?_,fun e i hi=>.inl ?_,g⟩
    · rw [ht j]
      by_cases e : j = o
      · have e2 : o ≤ j ∧ j < o + 1 := by omega
        rw [if_pos e,if_pos e2,show j - o = 0 by omega]
      · have e2 : ¬ (o ≤ j ∧ j < o + 1) := by omega
        rw [if_neg e,if_neg e2]
    · have : i = 0 := by omega
      subst this; exact hp e
  · obtain ⟨l,n,rfl,g⟩ := fS hR g
    obtain ⟨hn,g⟩ := an hR g
    obtain ⟨h1,g⟩ := an hR g
    rw [bn] at h1
    obtain ⟨f,hf,g⟩ := kB g
    rw [aC] at hn; subst hn
    have hfp : f = true → ∀ i,i < n → (cv (.agg l n) i).iQ = true ∨ ∃ l' n',AV.agg l n = .agg l' n' ∧ len l' ≤ i := fun e i hi=>by
      by_cases hl : i < len l
      · exact .inl (hf e i hl)
      · exact .inr ⟨l,n,rfl,by omega⟩
    rcases aK hR g with ⟨hz,g⟩ | ⟨hz,g⟩
    · rw [bR,aC,aC] at hz
      obtain ⟨hzn,ho⟩ := hz
      have ho : o % z = 0 := ho
      obtain ⟨t',ht,g2⟩ := ok.rs hR g
      subst hzn
      have hz1 : ¬ z = 1 := fun e=>by rw [← aC,hs] at e; exact Bool.noConfusion e
      refine ⟨t',f,.agg l z,fun j=>?_,hfp,g2⟩
      have htj : t'.at (j / z) = if j / z = o / z then .agg l z else t.at (j / z) := ht (j / z)
      rw [cellAt,cellAt,if_neg hz1,if_neg hz1,htj]
      by_cases e : j / z = o / z
      · have e2 := (a11 (z := z) (by omega) ho).1 e
        have e3 := afM ho e2
        rw [if_pos e,if_pos e2,← e3]; rfl
      · have e2 : ¬ (o ≤ j ∧ j < o + z) := fun e2=>e ((a11 (by omega) ho).2 e2)
        rw [if_neg e,if_neg e2]
    · obtain ⟨t',ht,g⟩ := xP ok hR _ g
      exact ⟨t',f,.agg l n,ht,hfp,g⟩
theorem a0Y (n : Nat) : ∀ {s : Row} {o : Nat} {d : Row} {p : Nat} {k : Row → ab},(cp M n).f s o d p k = R → ∃ d',(∀ j,d'.at j = if p ≤ j ∧ j < p + n then s.at (o + (j - p)) else d.at j) ∧ k d' = R := by
  induction n with
  | zero=>intro s o d p k h; exact ⟨d,fun j=>by rw [if_neg (by omega)],h⟩
  | succ n ih=>
    intro s o d p k h
    have h1 := ok.rg hR (k := fun v=>M.rs.f d p v fun d'=>(cp M n).f s (Nat.succ o) d' (Nat.succ p) k) h
    obtain ⟨d1,hd1,h2⟩ := ok.rs hR h1
    obtain ⟨d',hd',hk⟩ := ih h2
    refine ⟨d',fun j=>?_,hk⟩
    have hd1' : d1.at j = if j = p then s.at o else d.at j := hd1 j
    rw [hd' j,hd1']
    by_cases e : j = p
    · have e1 : ¬ (Nat.succ p ≤ j ∧ j < Nat.succ p + n) := by omega
      have e2 : p ≤ j ∧ j < p + (n + 1) := by omega
      rw [if_neg e1,if_pos e,if_pos e2,e,Nat.sub_self,Nat.add_zero]
    · by_cases e1 : Nat.succ p ≤ j ∧ j < Nat.succ p + n
      · have e2 : p ≤ j ∧ j < p + (n + 1) := by omega
        rw [if_pos e1,if_pos e2]; congr 1; omega
      · have e2 : ¬ (p ≤ j ∧ j < p + (n + 1)) := by omega
        rw [if_neg e1,if_neg e,if_neg e2]
theorem akb {v : AV} (n : Nat) : ∀ {d : Row} {p : Nat} {k : Row → ab},(rep M v n).f d p k = R → ∃ d',(∀ j,d'.at j = if p ≤ j ∧ j < p + n then v else d.at j) ∧ k d' = R := by
  induction n with
  | zero=>intro d p k h; exact ⟨d,fun j=>by rw [if_neg (by omega)],h⟩
  | succ n ih=>
    intro d p k h
    obtain ⟨d1,hd1,h2⟩ := ok.rs hR (k := fun d'=>(rep M v n).f d' (Nat.succ p) k) h
    obtain ⟨d',hd',hk⟩ := ih h2
    refine ⟨d',fun j=>?_,hk⟩
    have hd1' : d1.at j = if j = p then v else d.at j := hd1 j
    rw [hd' j,hd1']
    by_cases e : j = p
    · have e1 : ¬ (Nat.succ p ≤ j ∧ j < Nat.succ p + n) := by omega
      have e2 : p ≤ j ∧ j < p + (n + 1) := by omega
      rw [if_neg e1,if_pos e,if_pos e2]
    · by_cases e1 : Nat.succ p ≤ j ∧ j < Nat.succ p + n
      · have e2 : p ≤ j ∧ j < p + (n + 1) := by omega
        rw [if_pos e1,if_pos e2]
      · have e2 : ¬ (p ≤ j ∧ j < p + (n + 1)) := by omega
        rw [if_neg e1,if_neg e,if_neg e2]
theorem agf {z : Nat} (n : Nat) : ∀ {l t : Row} {e : Nat} {k : Row → ab},(putE M z n).f l t e k = R → ∃ t',(∀ j,(e ≤ j ∧ j < e + n → ∃ a,t'.at j = .agg a z ∧ ∀ i,i < z → nth a i = nth l ((j - e) * z + i)) ∧ (¬ (e ≤ j ∧ j < e + n) → t'.at j = t.at j)) ∧ k t' = R := by
  induction n with
  | zero=>intro l t e k h; exact ⟨t,fun j=>⟨fun hj=>absurd hj (by omega),fun _=>rfl⟩,h⟩
  | succ n ih=>
    intro l t e k h
    obtain ⟨a,⟨_,_,ha⟩,h⟩ := a00 hR z (k := fun a=>(a9F z).f l fun r=>M.rs.f t e (.agg a z) fun t=>(putE M z n).f r t (Nat.succ e) k) h
    obtain ⟨r,⟨_,hr⟩,h⟩ := zW hR z h
    obtain ⟨t1,ht1,h⟩ := ok.rs hR h
    obtain ⟨t',ht',hk⟩ := ih h
    refine ⟨t',fun j=>⟨fun hj=>?_,fun hj=>?_⟩,hk⟩
    · have ht1' : t1.at j = if j = e then .agg a z else t.at j := ht1 j
      by_cases e1 : j = e
      · refine ⟨a, ?_,fun i hi=>?_⟩
        · rw [(ht' j).2 (by omega),ht1',if_pos e1]
        · rw [ha i hi,e1,Nat.sub_self,Nat.zero_mul,Nat.zero_add]
      · obtain ⟨b,hb,hb2⟩ := (ht' j).1 (by omega)
        refine ⟨b,hb,fun i hi=>?_⟩
        rw [hb2 i hi,hr,show j - e = (j - Nat.succ e) + 1 by omega,Nat.succ_mul]; congr 1; omega
    · have ht1' : t1.at j = if j = e then .agg a z else t.at j := ht1 j
      rw [(ht' j).2 (by omega),ht1',if_neg (by omega)]
end
theorem abc {z : Nat} (hz : 0 < z) {s d : Row} {o p n : Nat} (h : ∀ j,j < n → d.at (p + j) = s.at (o + j)) {i : Nat} (hi : i < n * z) : cellAt z d (p * z + i) = cellAt z s (o * z + i) := by
  by_cases h1 : z = 1
  · subst h1; rw [cellAt,cellAt,if_pos rfl,if_pos rfl,Nat.mul_one,Nat.mul_one]; exact h i (by omega)
  · have hd : i / z < n := (Nat.div_lt_iff_lt_mul hz).2 hi
    rw [cellAt,cellAt,if_neg h1,if_neg h1,Nat.mul_comm p z,Nat.mul_comm o z,Nat.mul_add_div hz,Nat.mul_add_div hz,Nat.mul_add_mod,Nat.mul_add_mod,h _ hd]
theorem uq {z : Nat} (hz : 0 < z) {s d : Row} {i : Nat} (h : d.at (i / z) = s.at (i / z)) : cellAt z d i = cellAt z s i := by
  by_cases h1 : z = 1
  · subst h1; rw [cellAt,cellAt,if_pos rfl,if_pos rfl]; rw [Nat.div_one] at h; exact h
  · rw [cellAt,cellAt,if_neg h1,if_neg h1,h]
theorem a9e (v : AV) (n : Nat) : ∀ j,j + 1 < 2 ^ n → (Tr.full v n).at j = v := by
  induction n with
  | zero=>intro j hj; exact absurd hj (by rw [Nat.pow_zero]; omega)
  | succ n ih=>
    intro j hj
    have hp : 2 ^ (n + 1) = 2 * 2 ^ n := by rw [Nat.pow_succ,Nat.mul_comm]
    cases j with
    | zero=>rfl
    | succ j=>
      show (if j % 2 = 0 then (Tr.full v n).get .uu (j / 2) else (Tr.full v n).get .uu (j / 2)) = v
      rw [ite_self]
      exact ih (j / 2) (by omega)
theorem adD (n : Nat) : n < 2 ^ (depth n) := by
  have h : n + 1 < 2 ^ (Nat.log2 (n + 1) + 1) := Nat.lt_log2_self
  exact Nat.lt_of_succ_lt h
structure Mp where
  bq : Nat
  base : Nat
  size : Nat
abbrev Mu := Nat → Option Mp
def dI : Mu := fun _=>none
noncomputable def AV.cH : AV → Bool
  | .int .. | .bool _ | .str .. => true
  | .x g _ _ _ _=>g == 0 || jv g
  | _=>false
inductive ai (w : World) (F : Nat → Prop) : Mu → AV → Value → Prop
  | int {μ : Mu} {k n : Nat} (h : n < md k) : ai w F μ (.int k n) (.int (kd k) ((kd k).wrap n))
  | bool {μ : Mu} (b : Bool) : ai w F μ (.bool b) (.bool b)
  | str {μ : Mu} {s : ByteArray} : ai w F μ (.str (aR s.data.toList) s.size) (.string s)
  | ptr {μ : Mu} {b o : Nat} {m : Mp} (h : μ b = some m) : ai w F μ (.ptr b o) (.pointer (some ⟨m.bq,m.base + o,none⟩))
  | ms {μ : Mu} {b o n z c : Nat} {m : Mp} (h : μ b = some m) (hc : n ≤ c) (hs : m.base + o + c * z ≤ m.size) : ai w F μ (.ms b o n z) (.slice (some ⟨m.bq,m.base + o,none⟩) n c)
  | ms0 {μ : Mu} {b o z : Nat} {a : Addr} : ai w F μ (.ms b o 0 z) (.slice (some a) 0 0)
  | vs {μ : Mu} {t : Row} {o n z B off c : Nat} (us : Nat → Value) (hF : F B) (hc : n ≤ c) (hu : ∀ i,i < n * z → w.cell? ⟨B,off + i,none⟩ = some (us i)) (h1 : ∀ i,i < n * z → (us i).oneCell' = true) (h : ∀ i,i < n * z → ai w F dI (cellAt z t (o * z + i)) (us i)) : ai w F μ (.vs t o n z) (.slice (some ⟨B,off,none⟩) n c)
  | vs0 {μ : Mu} {t : Row} {o z c : Nat} {a : Addr} : ai w F μ (.vs t o 0 z) (.slice (some a) 0 c)
  | agg {μ : Mu} {l : Row} {n : Nat} {cs : Array Value} (us : Nat → Value) (hs : cs.size = n) (hu : ∀ i,i < n → cs[i]? = some (us i)) (h1 : ∀ i,i < n → (us i).oneCell' = true) (h : ∀ i,i < n → ai w F μ (nth l i) (us i)) : ai w F μ (.agg l n) (.agg cs)
  | bu {μ : Mu} {t : Row} {n : Nat} {vs : Array Value} (us : Nat → Value) (hl : len t = vs.size) (hu : ∀ i,i < vs.size → vs[i]? = some (us i)) (h : ∀ i,i < vs.size → ai w F μ (nth t i) (us i)) : ai w F μ (.bu t n) (.tuple vs)
  | uu {μ : Mu} {t : Row} {a b c : Nat} (v : Value) : ai w F μ (.x 0 t a b c) v
  | pg {μ : Mu} {t : Row} {o n z B off : Nat} (us : Nat → Value) (hF : F B) (hu : ∀ i,i < n → w.cell? ⟨B,off + i,none⟩ = some (us i)) (h1 : ∀ i,i < n → (us i).oneCell' = true) (h : ∀ i,i < n → ai w F dI (cellAt z t (o + i)) (us i)) : ai w F μ (.x 1 t o n z) (.pointer (some ⟨B,off,none⟩))
  | fn {μ : Mu} {t : Row} {f n m : Nat} {fs cs : Array Value} (us : Nat → Value) (h1 : fs.size = n) (h2 : cs.size = m) (h3 : len t = n + m) (hu : ∀ i,i < n → fs[i]? = some (us i)) (hv : ∀ i,i < m → cs[i]? = some (us (n + i))) (h : ∀ i,i < n + m → ai w F μ (nth t i) (us i)) : ai w F μ (.x 3 t f n m) (.func (.func f) fs cs)
  | map {μ : Mu} {t : Row} {b p c : Nat} {m : Mp} (h : μ b = some m) : ai w F μ (.x 4 t b p c) (.map (some m.bq))
  | yld {μ : Mu} {t : Row} {b p c : Nat} {m : Mp} (h : μ b = some m) : ai w F μ (.x 5 t b p c) (.func (.yield m.bq) #[] #[])
  | emp {μ : Mu} {t : Row} {a b c : Nat} {p : Addr} : ai w F μ (.x 6 t a b c) (.slice (some p) 0 0)
  | xz {μ : Mu} {t : Row} {a b c : Nat} : ai w F μ (.x 7 t a b c) (.pointer none)
  | qH {μ : Mu} {t : Row} {a b c : Nat} : ai w F μ (.x 8 t a b c) (.slice none 0 0)
  | xw {μ : Mu} {t : Row} {a b c : Nat} : ai w F μ (.x 9 t a b c) .nilFunc
  | xy {μ : Mu} {t : Row} {a b c : Nat} : ai w F μ (.x 10 t a b c) (.map none)
  | vv {μ : Mu} {t : Row} {a b c : Nat} : ai w F μ (.x 11 t a b c) .nilIface
  | iface {μ : Mu} {t : Row} {a b c : Nat} {v : Value} (h : ai w F μ (nth t 0) v) : ai w F μ (.x 12 t a b c) (.iface a v)
theorem ai.mono {w w' : World} {F F' : Nat → Prop} (hw : ∀ B,F B → w'.heap[B]? = w.heap[B]?) (hF : ∀ B,F B → F' B) {μ : Mu} {a : AV} {v : Value} (h : ai w F μ a v) :
    ∀ {μ' : Mu},(∀ b m,μ b = some m → μ' b = some m) → ai w' F' μ' a v := by
  have cell : ∀ B off,F B → w'.cell? ⟨B,off,none⟩ = w.cell? ⟨B,off,none⟩ := by
    intro B off hB
    simp only [World.cell?,hw B hB]
  induction h with
  | int h=>intro _ _; exact .int h
  | bool b=>intro _ _; exact .bool b
  | str=>intro _ _; exact .str
  | ptr h=>intro _ hm; exact .ptr (hm _ _ h)
  | ms h hc hs=>intro _ hm; exact .ms (hm _ _ h) hc hs
  | ms0=>intro _ _; exact .ms0
  | vs us hf hc hu h1 _ ih=>intro _ _; exact .vs us (hF _ hf) hc (fun i hi=>(cell _ _ hf).trans (hu i hi)) h1 fun i hi=>ih i hi (fun _ _ h=>h)
  | vs0=>intro _ _; exact .vs0
  | agg us hs hu h1 _ ih=>intro _ hm; exact .agg us hs hu h1 fun i hi=>ih i hi hm
  | bu us hs hu _ ih=>intro _ hm; exact .bu us hs hu fun i hi=>ih i hi hm
  | uu v=>intro _ _; exact .uu v
  | pg us hf hu h1 _ ih=>intro _ _; exact .pg us (hF _ hf) (fun i hi=>(cell _ _ hf).trans (hu i hi)) h1 fun i hi=>ih i hi (fun _ _ h=>h)
  | fn us h1 h2 h3 hu hv _ ih=>intro _ hm; exact .fn us h1 h2 h3 hu hv fun i hi=>ih i hi hm
  | map h=>intro _ hm; exact .map (hm _ _ h)
  | yld h=>intro _ hm; exact .yld (hm _ _ h)
  | emp=>intro _ _; exact .emp
  | xz=>intro _ _; exact .xz
  | qH=>intro _ _; exact .qH
  | xw=>intro _ _; exact .xw
  | xy=>intro _ _; exact .xy
  | vv=>intro _ _; exact .vv
  | iface _ ih=>intro _ hm; exact .iface (ih hm)
theorem ai.free {w : World} {F : Nat → Prop} {μ : Mu} {a : AV} {v : Value} (h : ai w F μ a v) (hf : a.cH = true) (μ' : Mu) : ai w F μ' a v := by
  cases h with
  | int h=>exact .int h
  | bool b=>exact .bool b
  | str=>exact .str
  | uu v=>exact .uu v
  | xz=>exact .xz
  | qH=>exact .qH
  | xw=>exact .xw
  | xy=>exact .xy
  | vv=>exact .vv
  | emp=>exact .emp
  | _=>exact Bool.noConfusion hf
theorem ff {a : AV} (h : a.iQ = true) : a.cH = true := by
  cases a <;> first | rfl | exact h | (simp only [AV.iQ] at h; simp [AV.cH,h]) | exact Bool.noConfusion h
theorem xA : ∀ {l : Row} {i : Nat},len l ≤ i → nth l i = .uu
  | .lf,i,_=>by cases i <;> rfl
  | .nd v a r,0,h=>absurd h (Nat.not_succ_le_zero _)
  | .nd v a r,i + 1,h=>xA (l := r) (Nat.le_of_succ_le_succ h)
def pv (P : Program) (w : World) (F : Nat → Prop) (μ : Mu) (vars : Nat → List Nat) (st f i : Nat) (fr : Fr) (L : Loop) : Prop :=
  (∃ fn c ps a b,P.funcs[f]? = some fn ∧ fn.body = some c ∧ gC i c = some (ps,a,b) ∧ L.params.toList = ps ∧ L.assign = a ∧ L.body = b) ∧ (vars f).headD 0 ≤ L.tmps.size ∧
  (∀ t j,idxOf t (vars f).tail 0 = .f j → ai w F μ (fr.at j) (L.tmps.getD t undef)) ∧
  (match st with
   | 0=>L.state = .ready ∧ L.pending = none
   | 1=>L.state = .busy
   | 2=>L.state = .done ∧ L.pending = some .ret
   | n + 3=>L.state = .done ∧ ((∃ id,n = 2 * id ∧ L.pending = some (.exit id)) ∨ (∃ l,n = 2 * l + 1 ∧ L.pending = some (.goto l))))
structure Vs where
  vars : Nat → List Nat
  nG : Nat
  G : World → Prop
  keep : ∀ w w',G w → (∀ B,B < nG → w'.heap[B]? = w.heap[B]?) → G w'
instance : CoeFun Vs fun _=>Nat → List Nat := ⟨Vs.vars⟩
structure Env where
  P : Program
  vs : Vs
abbrev Env.vars (V : Env) : Nat → List Nat := V.vs.vars
def Env.Glo (V : Env) (w : World) (F : Nat → Prop) : Prop := V.vs.G w ∧ ∀ B,B < V.vs.nG → F B
theorem Env.Glo.mono {V : Env} {w w' : World} {F F' : Nat → Prop} (h : V.Glo w F) (hk : ∀ B,F B → w'.heap[B]? = w.heap[B]?) (hF : ∀ B,F B → F' B) : V.Glo w' F' :=
  ⟨V.vs.keep w w' h.1 fun B hB=>hk B (h.2 B hB),fun B hB=>hF B (h.2 B hB)⟩
def jZ (V : Env) (w : World) (F : Nat → Prop) (μ : Mu) (b : Nat) : bN → Prop
  | .dead=>True
  | .fwd _=>False
  | .row rw fl z sz t=>∃ m c T fz,μ b = some m ∧ w.heap[m.bq]? = some (.cells c T fz) ∧ c.size = m.size ∧ (∀ i,i < sz → ∃ u,c[m.base + i]? = some u ∧ u.oneCell' = true ∧ ai w F μ (cellAt z t i) u) ∧
      (fl = true → ∀ i,i < sz → (cellAt z t i).cH = true) ∧ (rw = true → (fz.1 = fz.2 ∨ c.size ≤ fz.1) ∧ ¬ F m.bq) ∧ (rw = false → F m.bq)
  | .map n t=>∃ m es clk,μ b = some m ∧ w.heap[m.bq]? = some (.map es clk) ∧ ¬ F m.bq ∧ es.size = n ∧ ∀ i,i < n → ∃ e,es[i]? = some e ∧ ai w F μ (t.at (2 * i)) e.key ∧ ai w F μ (t.at (2 * i + 1)) e.val
  | .loop st f i fr=>∃ m L,μ b = some m ∧ w.heap[m.bq]? = some (.loop L) ∧ ¬ F m.bq ∧ pv V.P w F μ V.vars st f i fr L
def bN.wr : bN → Prop
  | .row rw _ _ _ _=>rw = true
  | .map _ _ | .loop _ _ _ _=>True
  | _=>False
def WB (h : Hp) (μ : Mu) (B : Nat) : Prop := ∃ b m,(h.at b).wr ∧ μ b = some m ∧ m.bq = B
def Own (h : Hp) (μ : Mu) (B : Nat) : Prop := ∃ b m,(h.at b).wr ∧ b ∉ h.pr ∧ μ b = some m ∧ m.bq = B
theorem Own.wb {h : Hp} {μ : Mu} {B : Nat} : Own h μ B → WB h μ B := fun ⟨b,m,hw,_,hm,hB⟩=>⟨b,m,hw,hm,hB⟩
structure aN (V : Env) (μ : Mu) (F : Nat → Prop) (h : Hp) (w : World) : Prop where
  bq : ∀ b,jZ V w F μ b (h.at b)
  jo : ∀ b b' m m',(h.at b).wr → (h.at b').wr → b ≠ b' → μ b = some m → μ b' = some m' → m.bq ≠ m'.bq
  kR : ∀ b m,μ b = some m → b < h.nx ∧ m.bq < w.heap.size
  nC : ∀ B,F B → B < w.heap.size
  rO : V.Glo w F
theorem aN.a7T {V : Env} {μ : Mu} {F : Nat → Prop} {h : Hp} {w : World} (H : aN V μ F h w) {B : Nat} (hB : WB h μ B) : ¬ F B := by
  obtain ⟨b,m,hw,hm,rfl⟩ := hB
  have hb := H.bq b
  revert hw hb
  generalize h.at b = X
  intro hw hb
  cases X with
  | dead=>exact hw.elim
  | fwd i=>exact hw.elim
  | row rw fl z sz t=>
    obtain ⟨m',c,T,fz,hm',_,_,_,_,h6,_⟩ := hb
    rw [hm] at hm'; cases hm'
    exact (h6 hw).2
  | map n t=>obtain ⟨m',_,_,hm',_,h3,_⟩ := hb; rw [hm] at hm'; cases hm'; exact h3
  | loop st f i fr=>obtain ⟨m',_,hm',_,h3,_⟩ := hb; rw [hm] at hm'; cases hm'; exact h3
def fD (w w' : World) : Prop := (w'.os,w'.tape) = (w.os,w.tape) ∧ w'.output = w.output
theorem fD.refl (w : World) : fD w w := ⟨rfl,rfl⟩
theorem fD.trans {a b c : World} (h : fD a b) (k : fD b c) : fD a c := ⟨k.1.trans h.1,k.2.trans h.2⟩
structure Ext (μ : Mu) (F : Nat → Prop) (h : Hp) (w : World) (μ' : Mu) (F' : Nat → Prop) (h' : Hp) (w' : World) : Prop where
  mu : ∀ b m,μ b = some m → μ' b = some m
  fr : ∀ B,F B → F' B
  size : w.heap.size ≤ w'.heap.size
  keep : ∀ B,B < w.heap.size → ¬ Own h μ B → w'.heap[B]? = w.heap[B]?
  own : ∀ B,Own h' μ' B → w.heap.size ≤ B ∨ Own h μ B
  wb : ∀ B,WB h' μ' B → w.heap.size ≤ B ∨ WB h μ B
  pR : ∀ B,F' B → F B ∨ w.heap.size ≤ B ∨ WB h μ B
  lV : ∀ b m,μ' b = some m → μ b = some m ∨ (μ b = none ∧ (w.heap.size ≤ m.bq ∨ Own h μ m.bq))
  nx : h.nx ≤ h'.nx
  pr : h'.pr = h.pr
  rb : h'.rb = h.rb
  io : fD w w'
theorem Ext.refl (μ : Mu) (F : Nat → Prop) (h : Hp) (w : World) : Ext μ F h w μ F h w :=
  ⟨fun _ _ h=>h,fun _ h=>h,Nat.le_refl _,fun _ _ _=>rfl,fun _ h=>.inr h,fun _ h=>.inr h,fun _ h=>.inl h,fun _ _ h=>.inl h,Nat.le_refl _,rfl,rfl,.refl _⟩
theorem Ext.trans {μ μ₁ μ₂ : Mu} {F F₁ F₂ : Nat → Prop} {h h₁ h₂ : Hp} {w w₁ w₂ : World} (a : Ext μ F h w μ₁ F₁ h₁ w₁) (b : Ext μ₁ F₁ h₁ w₁ μ₂ F₂ h₂ w₂) : Ext μ F h w μ₂ F₂ h₂ w₂ where
  mu := fun x m hm=>b.mu x m (a.mu x m hm)
  fr := fun B hB=>b.fr B (a.fr B hB)
  size := Nat.le_trans a.size b.size
  keep := fun B hB ho=>(b.keep B (Nat.lt_of_lt_of_le hB a.size) fun h1=>(a.own B h1).elim (fun h=>absurd hB (Nat.not_lt.2 h)) ho).trans (a.keep B hB ho)
  own := fun B hB=>(b.own B hB).elim (fun h=>.inl (Nat.le_trans a.size h)) (a.own B)
  wb := fun B hB=>(b.wb B hB).elim (fun h=>.inl (Nat.le_trans a.size h)) (a.wb B)
  pR := fun B hB=>(b.pR B hB).elim (a.pR B) fun h=>h.elim (fun h=>.inr (.inl (Nat.le_trans a.size h))) fun h=>.inr ((a.wb B h))
  lV := fun x m hm=>by
    rcases b.lV x m hm with h1 | ⟨h0,h1⟩
    · exact a.lV x m h1
    · have hn : μ x = none := by
        cases hx : μ x with
        | none=>rfl
        | some y=>rw [a.mu x y hx] at h0; cases h0
      exact .inr ⟨hn,h1.elim (fun h=>.inl (Nat.le_trans a.size h)) fun h=>a.own _ h⟩
  nx := Nat.le_trans a.nx b.nx
  pr := b.pr.trans a.pr
  rb := b.rb.trans a.rb
  io := a.io.trans b.io
theorem Ext.same {V : Env} {μ μ' : Mu} {F F' : Nat → Prop} {h h' : Hp} {w w' : World} (H : aN V μ F h w) (e : Ext μ F h w μ' F' h' w') : ∀ B,F B → w'.heap[B]? = w.heap[B]? :=
  fun B hB=>e.keep B (H.nC B hB) fun ho=>H.a7T ho.wb hB
theorem ai.ext {V : Env} {μ μ' : Mu} {F F' : Nat → Prop} {h h' : Hp} {w w' : World} (H : aN V μ F h w) (e : Ext μ F h w μ' F' h' w') {a : AV} {v : Value} (hc : ai w F μ a v) : ai w' F' μ' a v :=
  hc.mono (e.same H) e.fr e.mu
section
variable {V : Env} {μ μ' : Mu} {F F' : Nat → Prop} {h h' : Hp} {w w' : World}
theorem pv.mono {P : Program} {vars : Nat → List Nat} (hw : ∀ B,F B → w'.heap[B]? = w.heap[B]?) (hF : ∀ B,F B → F' B) (hm : ∀ b m,μ b = some m → μ' b = some m) {st f i : Nat} {fr : Fr} {L : Loop}
    (H : pv P w F μ vars st f i fr L) : pv P w' F' μ' vars st f i fr L :=
  ⟨H.1,H.2.1,fun t j e=>(H.2.2.1 t j e).mono hw hF hm,H.2.2.2⟩
theorem jZ.keep (hw : ∀ B,F B → w'.heap[B]? = w.heap[B]?) (hF : ∀ B,F B → F' B) (hm : ∀ b m,μ b = some m → μ' b = some m) {b : Nat} {X : bN}
    (hk : ∀ m,μ b = some m → w'.heap[m.bq]? = w.heap[m.bq]?) (hn : ∀ m,μ b = some m → X.wr → ¬ F m.bq → ¬ F' m.bq) (H : jZ V w F μ b X) : jZ V w' F' μ' b X := by
  cases X with
  | dead=>exact trivial
  | fwd i=>exact H.elim
  | row rw fl z sz t=>
    obtain ⟨m,c,T,fz,h1,h2,h3,h4,h5,h6,h7⟩ := H
    exact ⟨m,c,T,fz,hm _ _ h1,(hk m h1).trans h2,h3,fun i hi=>let ⟨u,hu,h1,hc⟩ := h4 i hi; ⟨u,hu,h1,hc.mono hw hF hm⟩,h5,fun e=>⟨(h6 e).1,hn m h1 e (h6 e).2⟩,fun e=>hF _ (h7 e)⟩
  | map n t=>
    obtain ⟨m,es,clk,h1,h2,h3,h4,h5⟩ := H
    exact ⟨m,es,clk,hm _ _ h1,(hk m h1).trans h2,hn m h1 trivial h3,h4,fun i hi=>let ⟨e,he,ha,hb⟩ := h5 i hi; ⟨e,he,ha.mono hw hF hm,hb.mono hw hF hm⟩⟩
  | loop st f i fr=>
    obtain ⟨m,L,h1,h2,h3,h4⟩ := H
    exact ⟨m,L,hm _ _ h1,(hk m h1).trans h2,hn m h1 trivial h3,h4.mono hw hF hm⟩
def eK (μ : Mu) (id : Nat) (m : Mp) : Mu := fun b=>if b = id then some m else μ b
theorem bc (μ : Mu) (id : Nat) (m : Mp) : eK μ id m id = some m := if_pos rfl
theorem dC (μ : Mu) {id b : Nat} (m : Mp) (hb : b ≠ id) : eK μ id m b = μ b := if_neg hb
theorem gI {id : Nat} (m : Mp) (hid : μ id = none) : ∀ b x,μ b = some x → eK μ id m b = some x := fun b x hx=>by
  rw [dC]
  · exact hx
  · rintro rfl; rw [hid] at hx; cases hx
structure dZ (h : Hp) (id : Nat) (B : bN) (h' : Hp) : Prop where
  at_ : ∀ b,h'.at b = if b = id then B else h.at b
  nx : h.nx ≤ h'.nx
  pr : h'.pr = h.pr
  rb : h'.rb = h.rb
theorem dZ.same {id : Nat} {B : bN} (s : dZ h id B h') : h'.at id = B := by rw [s.at_,if_pos rfl]
theorem dZ.ne {id b : Nat} {B : bN} (s : dZ h id B h') (hb : b ≠ id) : h'.at b = h.at b := by rw [s.at_,if_neg hb]
theorem aN.new (H : aN V μ F h w) {id : Nat} {B : bN} {m : Mp} {o : Obj} (hid : μ id = none) (hw : w'.heap = w.heap.push o) (s : dZ h id B h') (hn : id < h'.nx) (hm : m.bq = w.heap.size)
    (hB : jZ V w' F (eK μ id m) id B) (hio : fD w w' := by exact ⟨rfl,rfl⟩) : aN V (eK μ id m) F h' w' ∧ Ext μ F h w (eK μ id m) F h' w' := by
  have hsz : w'.heap.size = w.heap.size + 1 := by rw [hw,Array.size_push]
  have hold : ∀ B,B < w.heap.size → w'.heap[B]? = w.heap[B]? := fun B hB=>by rw [hw,Array.getElem?_push,if_neg (by omega)]
  refine ⟨⟨fun b=>?_,fun b b' x x' hb hb' hne hx hx'=>?_,fun b x hx=>?_,fun B hB=>by have := H.nC B hB; omega,H.rO.mono (fun B hB=>hold B (H.nC B hB)) fun _ h=>h⟩,
    ⟨gI m hid,fun _ h=>h,by omega,fun B hB _=>hold B hB, ?_, ?_,fun _ h=>.inl h,fun b x hx=>?_,s.nx,s.pr,s.rb,hio⟩⟩
  · by_cases e : b = id
    · subst e; rw [s.same]; exact hB
    · rw [s.ne e]
      exact (H.bq b).keep (fun B hB=>hold B (H.nC B hB)) (fun _ h=>h) (gI m hid) (fun x hx=>hold _ (H.kR b x hx).2) (fun _ _ _ h=>h)
  · by_cases e : b = id
    · subst e
      rw [bc] at hx; cases hx
      rw [dC μ m (Ne.symm hne)] at hx'
      have := (H.kR b' x' hx').2; omega
    · rw [dC μ m e] at hx
      have h1 := (H.kR b x hx).2
      by_cases e' : b' = id
      · subst e'; rw [bc] at hx'; cases hx'; omega
      · rw [dC μ m e'] at hx'
        rw [s.ne e] at hb; rw [s.ne e'] at hb'
        exact H.jo b b' x x' hb hb' hne hx hx'
  · by_cases e : b = id
    · subst e; rw [bc] at hx; cases hx; exact ⟨hn,by omega⟩
    · rw [dC μ m e] at hx
      have := H.kR b x hx; have := s.nx; exact ⟨by omega,by omega⟩
  · rintro B ⟨b,x,hb,hp,hx,rfl⟩
    by_cases e : b = id
    · subst e; rw [bc] at hx; cases hx; exact .inl (by omega)
    · rw [dC μ m e] at hx; rw [s.ne e] at hb
      exact .inr ⟨b,x,hb,by rw [s.pr] at hp; exact hp,hx,rfl⟩
  · rintro B ⟨b,x,hb,hx,rfl⟩
    by_cases e : b = id
    · subst e; rw [bc] at hx; cases hx; exact .inl (by omega)
    · rw [dC μ m e] at hx; rw [s.ne e] at hb
      exact .inr ⟨b,x,hb,hx,rfl⟩
  · by_cases e : b = id
    · subst e; rw [bc] at hx; cases hx; exact .inr ⟨hid,.inl (by omega)⟩
    · rw [dC μ m e] at hx; exact .inl hx
theorem aN.set (H : aN V μ F h w) {b : Nat} {B : bN} {m : Mp} (hb : (h.at b).wr) (hp : b ∉ h.pr) (hm : μ b = some m) (hsz : w'.heap.size = w.heap.size) (hk : ∀ X,X ≠ m.bq → w'.heap[X]? = w.heap[X]?)
    (s : dZ h b B h') (hB : jZ V w' F μ b B) (hio : fD w w' := by exact ⟨rfl,rfl⟩) : aN V μ F h' w' ∧ Ext μ F h w μ F h' w' := by
  have hown : Own h μ m.bq := ⟨b,m,hb,hp,hm,rfl⟩
  have hF : ∀ X,F X → w'.heap[X]? = w.heap[X]? := fun X hX=>hk X fun e=>H.a7T hown.wb (e ▸ hX)
  refine ⟨⟨fun c=>?_,fun c c' x x' hc hc' hne hx hx'=>?_,fun c x hx=>?_,fun X hX=>by rw [hsz]; exact H.nC X hX,H.rO.mono hF fun _ h=>h⟩,
    ⟨fun _ _ h=>h,fun _ h=>h,by omega,fun X _ ho=>hk X fun e=>ho (e ▸ hown), ?_, ?_,fun _ h=>.inl h,fun _ _ h=>.inl h,s.nx,s.pr,s.rb,hio⟩⟩
  · by_cases e : c = b
    · subst e; rw [s.same]; exact hB
    · rw [s.ne e]
      have hc := H.bq c
      by_cases hw : (h.at c).wr
      · exact hc.keep hF (fun _ h=>h) (fun _ _ h=>h) (fun x hx=>hk _ (H.jo c b x m hw hb e hx hm)) (fun _ _ _ h=>h)
      · revert hc hw
        generalize h.at c = X
        intro hc hw
        cases X with
        | dead=>exact trivial
        | fwd i=>exact hc.elim
        | map n t=>exact absurd trivial hw
        | loop st f i fr=>exact absurd trivial hw
        | row rw fl z sz t=>
          cases rw with
          | true=>exact absurd rfl hw
          | false=>
            have hfr : ∀ x,μ c = some x → F x.bq := fun x hx=>by
              obtain ⟨y,_,_,_,hy,_,_,_,_,_,h7⟩ := hc
              rw [hx] at hy; cases hy; exact h7 rfl
            exact hc.keep hF (fun _ h=>h) (fun _ _ h=>h) (fun x hx=>hF _ (hfr x hx)) (fun _ _ _ h=>h)
  · have hwr : ∀ a,(h'.at a).wr → (h.at a).wr := fun a ha=>by
      by_cases e : a = b
      · subst e; exact hb
      · rw [s.ne e] at ha; exact ha
    exact H.jo c c' x x' (hwr c hc) (hwr c' hc') hne hx hx'
  · have := H.kR c x hx; have := s.nx; exact ⟨by omega,by omega⟩
  · rintro X ⟨c,x,hc,hcp,hx,rfl⟩
    refine .inr ⟨c,x, ?_,by rw [s.pr] at hcp; exact hcp,hx,rfl⟩
    by_cases e : c = b
    · subst e; exact hb
    · rw [s.ne e] at hc; exact hc
  · rintro X ⟨c,x,hc,hx,rfl⟩
    refine .inr ⟨c,x, ?_,hx,rfl⟩
    by_cases e : c = b
    · subst e; exact hb
    · rw [s.ne e] at hc; exact hc
theorem aN.kill (H : aN V μ F h w) {b : Nat} (s : dZ h b .dead h') : aN V μ F h' w ∧ Ext μ F h w μ F h' w := by
  have hwr : ∀ a,(h'.at a).wr → (h.at a).wr := fun a ha=>by
    by_cases e : a = b
    · subst e; rw [s.same] at ha; exact ha.elim
    · rw [s.ne e] at ha; exact ha
  refine ⟨⟨fun c=>?_,fun c c' x x' hc hc'=>H.jo c c' x x' (hwr c hc) (hwr c' hc'),fun c x hx=>?_,H.nC,H.rO⟩,
    ⟨fun _ _ h=>h,fun _ h=>h,Nat.le_refl _,fun _ _ _=>rfl, ?_, ?_,fun _ h=>.inl h,fun _ _ h=>.inl h,s.nx,s.pr,s.rb,.refl _⟩⟩
  · by_cases e : c = b
    · subst e; rw [s.same]; exact trivial
    · rw [s.ne e]; exact H.bq c
  · have := H.kR c x hx; have := s.nx; exact ⟨by omega,by omega⟩
  · rintro X ⟨c,x,hc,hcp,hx,rfl⟩; exact .inr ⟨c,x,hwr c hc,by rw [s.pr] at hcp; exact hcp,hx,rfl⟩
  · rintro X ⟨c,x,hc,hx,rfl⟩; exact .inr ⟨c,x,hwr c hc,hx,rfl⟩
theorem aN.move (H : aN V μ F h w) {c id : Nat} {B : bN} {m m' : Mp} {h1 : Hp} (hc : (h.at c).wr) (hp : c ∉ h.pr) (hm : μ c = some m) (hid : μ id = none) (s1 : dZ h c .dead h1) (s : dZ h1 id B h') (hn : id < h'.nx) (hne : id ≠ c)
    (hsz : w'.heap.size = w.heap.size) (hk : ∀ X,X ≠ m.bq → w'.heap[X]? = w.heap[X]?) (hm' : m'.bq = m.bq) (hB : jZ V w' F (eK μ id m') id B) (hio : fD w w' := by exact ⟨rfl,rfl⟩) :
    aN V (eK μ id m') F h' w' ∧ Ext μ F h w (eK μ id m') F h' w' := by
  have hown : Own h μ m.bq := ⟨c,m,hc,hp,hm,rfl⟩
  have hF : ∀ X,F X → w'.heap[X]? = w.heap[X]? := fun X hX=>hk X fun e=>H.a7T hown.wb (e ▸ hX)
  have hat : ∀ b,b ≠ id → b ≠ c → h'.at b = h.at b := fun b h1 h2=>by rw [s.ne h1,s1.ne h2]
  have hcd : h'.at c = .dead := by rw [s.ne (Ne.symm hne),s1.same]
  have hwr : ∀ a,a ≠ id → (h'.at a).wr → (h.at a).wr ∧ a ≠ c := fun a ha hw=>by
    by_cases e : a = c
    · subst e; rw [hcd] at hw; exact hw.elim
    · rw [hat a ha e] at hw; exact ⟨hw,e⟩
  have hpr : h'.pr = h.pr := s.pr.trans s1.pr
  have hnx : h.nx ≤ h'.nx := Nat.le_trans s1.nx s.nx
  have hmb := (H.kR c m hm).2
  refine ⟨⟨fun b=>?_,fun b b' x x' hb hb' hne' hx hx'=>?_,fun b x hx=>?_,fun X hX=>by rw [hsz]; exact H.nC X hX,H.rO.mono hF fun _ h=>h⟩,
    ⟨gI m' hid,fun _ h=>h,by omega,fun X _ ho=>hk X fun e=>ho (e ▸ hown), ?_, ?_,fun _ h=>.inl h,fun b x hx=>?_,hnx,hpr,s.rb.trans s1.rb,hio⟩⟩
  · by_cases e : b = id
    · subst e; rw [s.same]; exact hB
    · by_cases e2 : b = c
      · subst e2; rw [hcd]; exact trivial
      · rw [hat b e e2]
        have hb := H.bq b
        by_cases hw : (h.at b).wr
        · exact hb.keep hF (fun _ h=>h) (gI m' hid) (fun x hx=>hk _ (H.jo b c x m hw hc e2 hx hm)) (fun _ _ _ h=>h)
        · revert hb hw
          generalize h.at b = X
          intro hb hw
          cases X with
          | dead=>exact trivial
          | fwd i=>exact hb.elim
          | map n t=>exact absurd trivial hw
          | loop st f i fr=>exact absurd trivial hw
          | row rw fl z sz t=>
            cases rw with
            | true=>exact absurd rfl hw
            | false=>
              have hfr : ∀ x,μ b = some x → F x.bq := fun x hx=>by
                obtain ⟨y,_,_,_,hy,_,_,_,_,_,h7⟩ := hb
                rw [hx] at hy; cases hy; exact h7 rfl
              exact hb.keep hF (fun _ h=>h) (gI m' hid) (fun x hx=>hF _ (hfr x hx)) (fun _ _ _ h=>h)
  · by_cases e : b = id
    · subst e
      rw [bc] at hx; cases hx
      rw [dC μ m' (Ne.symm hne')] at hx'
      have ⟨h1,h2⟩ := hwr b' (Ne.symm hne') hb'
      rw [hm']; exact Ne.symm (H.jo b' c x' m h1 hc h2 hx' hm)
    · rw [dC μ m' e] at hx
      have ⟨h1,h2⟩ := hwr b e hb
      by_cases e' : b' = id
      · subst e'; rw [bc] at hx'; cases hx'; rw [hm']; exact H.jo b c x m h1 hc h2 hx hm
      · rw [dC μ m' e'] at hx'
        exact H.jo b b' x x' h1 (hwr b' e' hb').1 hne' hx hx'
  · by_cases e : b = id
    · subst e; rw [bc] at hx; cases hx; exact ⟨hn,by omega⟩
    · rw [dC μ m' e] at hx
      have := H.kR b x hx; exact ⟨by omega,by omega⟩
  · rintro X ⟨b,x,hb,hbp,hx,rfl⟩
    by_cases e : b = id
    · subst e; rw [bc] at hx; cases hx; rw [hm']; exact .inr hown
    · rw [dC μ m' e] at hx
      exact .inr ⟨b,x,(hwr b e hb).1,by rw [hpr] at hbp; exact hbp,hx,rfl⟩
  · rintro X ⟨b,x,hb,hx,rfl⟩
    by_cases e : b = id
    · subst e; rw [bc] at hx; cases hx; rw [hm']; exact .inr hown.wb
    · rw [dC μ m' e] at hx
      exact .inr ⟨b,x,(hwr b e hb).1,hx,rfl⟩
  · by_cases e : b = id
    · subst e; rw [bc] at hx; cases hx; exact .inr ⟨hid,.inr (hm' ▸ hown)⟩
    · rw [dC μ m' e] at hx; exact .inl hx
theorem aN.mark (H : aN V μ F h w) {b : Nat} {rw fl fl' : Bool} {z sz : Nat} {t : Row} {m : Mp} (hb : h.at b = .row rw fl z sz t) (hm : μ b = some m) (hfl : fl' = true → fl = true) (s : dZ h b (.row false fl' z sz t) h') :
    aN V μ (fun B=>F B ∨ B = m.bq) h' w ∧ Ext μ F h w μ (fun B=>F B ∨ B = m.bq) h' w := by
  have hB := H.bq b
  rw [hb] at hB
  obtain ⟨m',c,T,fz,h1,h2,h3,h4,h5,h6,h7⟩ := hB
  rw [hm] at h1; cases h1
  have hwb : WB h μ m.bq ∨ F m.bq := by
    cases rw with
    | true=>exact .inl ⟨b,m,by rw [hb]; exact rfl,hm,rfl⟩
    | false=>exact .inr (h7 rfl)
  have hwr : ∀ a,(h'.at a).wr → (h.at a).wr ∧ a ≠ b := fun a ha=>by
    by_cases e : a = b
    · subst e; rw [s.same] at ha; exact Bool.noConfusion ha
    · rw [s.ne e] at ha; exact ⟨ha,e⟩
  refine ⟨⟨fun c'=>?_,fun c c' x x' hc hc'=>H.jo c c' x x' (hwr c hc).1 (hwr c' hc').1,fun c x hx=>?_,fun B hB=>hB.elim (H.nC B) fun e=>e ▸ (H.kR b m hm).2,H.rO.mono (fun _ _=>rfl) fun _ h=>.inl h⟩,
    ⟨fun _ _ h=>h,fun _ h=>.inl h,Nat.le_refl _,fun _ _ _=>rfl, ?_, ?_,fun B h=>h.elim .inl fun e=>hwb.elim (fun h=>.inr (.inr (e ▸ h))) fun h=>.inl (e ▸ h),fun _ _ h=>.inl h,s.nx,s.pr,s.rb,.refl _⟩⟩
  · by_cases e : c' = b
    · subst e; rw [s.same]
      exact ⟨m,c,T,fz,hm,h2,h3,fun i hi=>let ⟨u,hu,h1,hc⟩ := h4 i hi; ⟨u,hu,h1,hc.mono (fun _ _=>rfl) (fun _ h=>.inl h) fun _ _ h=>h⟩,fun e=>h5 (hfl e),fun e=>Bool.noConfusion e,fun _=>.inr rfl⟩
    · rw [s.ne e]
      refine (H.bq c').keep (fun _ _=>rfl) (fun _ h=>.inl h) (fun _ _ h=>h) (fun _ _=>rfl) fun x hx hwx hnx hor=>?_
      rcases hor with q | q
      · exact hnx q
      · rcases hwb with hw | hf
        · have hbw : (h.at b).wr := by
            obtain ⟨b0,m0,hb0,hm0,hB0⟩ := hw
            rw [hb]
            cases rw with
            | true=>exact rfl
            | false=>exact absurd (h7 rfl) (H.a7T ⟨b0,m0,hb0,hm0,hB0⟩)
          exact H.jo c' b x m hwx hbw e hx hm q
        · exact hnx (q ▸ hf)
  · have := H.kR c x hx; have := s.nx; exact ⟨by omega,by omega⟩
  · rintro X ⟨c,x,hc,hcp,hx,rfl⟩; exact .inr ⟨c,x,(hwr c hc).1,by rw [s.pr] at hcp; exact hcp,hx,rfl⟩
  · rintro X ⟨c,x,hc,hx,rfl⟩; exact .inr ⟨c,x,(hwr c hc).1,hx,rfl⟩
theorem aN.world (H : aN V μ F h w) (hw : w'.heap = w.heap) (hio : fD w w' := by exact ⟨rfl,rfl⟩) : aN V μ F h w' ∧ Ext μ F h w μ F h w' := by
  have hk : ∀ X : Nat,w'.heap[X]? = w.heap[X]? := fun X=>by rw [hw]
  exact ⟨⟨fun b=>(H.bq b).keep (fun B _=>hk B) (fun _ h=>h) (fun _ _ h=>h) (fun _ _=>hk _) (fun _ _ _ h=>h),H.jo,fun b m hm=>by rw [hw]; exact H.kR b m hm,fun B hB=>by rw [hw]; exact H.nC B hB,H.rO.mono (fun B _=>hk B) fun _ h=>h⟩,
    ⟨fun _ _ h=>h,fun _ h=>h,by rw [hw]; exact Nat.le_refl _,fun B _ _=>hk B,fun _ h=>.inr h,fun _ h=>.inr h,fun _ h=>.inl h,fun _ _ h=>.inl h,Nat.le_refl _,rfl,rfl,hio⟩⟩
end
end Go.Proofs.YtpiokjcbadfalaaGreatDoor.Ev
