import Derived.Test.YtbamejikafhenaaDoorEvAN
import Derived.Test.YtbamejikafhenaaDoorEvAP
import Derived.Test.YtbamejikafhenaaDoorEvAR
import Derived.Test.YtbamejikafhenaaDoorEvAU
import Derived.Test.YtbamejikafhenaaDoorEvAV
import Derived.Test.YtbamejikafhenaaDoorEvAW
open Go Go.Proofs.YtbamejikafhenaaDoor.Ev
namespace Go.Proofs.YtbamejikafhenaaDoor.Tz
theorem sV {A R w : List UInt8} {c : UInt8} (h : ∀ x ∈ A, x ≠ c) {j : Nat} (hj : j < A.length) : Lib.occAt (A ++ R) (c :: w) j = false := by
  unfold Lib.occAt
  rw [List.drop_append_of_le_length (by omega), List.drop_eq_getElem_cons hj]
  show (c == A[j] && _) = false
  have : A[j] ≠ c := h _ (List.getElem_mem _)
  rw [show (c == A[j]) = false from by rw [beq_eq_false_iff_ne]; exact fun e => this e.symm]
  rfl
theorem wU {A R w : List UInt8} : Lib.occAt (A ++ (w ++ R)) w A.length = true := by
  unfold Lib.occAt
  rw [List.drop_left, List.isPrefixOf_iff_prefix]; exact List.prefix_append w R
theorem a5I {A R w : List UInt8} {c : UInt8} (h : ∀ x ∈ A, x ≠ c) : Lib.cut (A ++ ((c :: w) ++ R)) (c :: w) = (A, R, true) := by
  have e : Lib.index (A ++ ((c :: w) ++ R)) (c :: w) = A.length := Lib.index_first (by rw [List.length_append]; omega) wU fun j hj => sV h hj
  unfold Lib.cut
  rw [e, if_pos (by omega), Int.toNat_natCast, List.take_left, ← List.drop_drop, List.drop_left, List.drop_left]
theorem aaF {A w : List UInt8} {c : UInt8} (h : ∀ x ∈ A, x ≠ c) : Lib.cut A (c :: w) = (A, [], false) := by
  have e : Lib.index A (c :: w) = -1 := Lib.index_none fun j hj => by
    by_cases hlt : j < A.length
    · have := sV (R := []) (w := w) h hlt
      rwa [List.append_nil] at this
    · unfold Lib.occAt
      rw [List.drop_eq_nil_of_le (by omega)]; rfl
  unfold Lib.cut
  rw [e, if_neg (by decide)]
theorem a84 {A R w : List UInt8} (hw : w ≠ []) (h : ∀ j, A.length < j → j ≤ (A ++ (w ++ R)).length → Lib.occAt (A ++ (w ++ R)) w j = false) : Lib.lastIndex (A ++ (w ++ R)) w = A.length := by
  have hl : (A ++ (w ++ R)).length = A.length + (w.length + R.length) := by rw [List.length_append, List.length_append]
  unfold Lib.lastIndex
  rw [if_pos (by omega)]
  rcases Lib.lastOcc_spec (A ++ (w ++ R)) w ((A ++ (w ++ R)).length - w.length + 1) with ⟨_, h2⟩ | ⟨i, h1, h2, h3, h4⟩
  · have := h2 A.length (by omega)
    rw [wU] at this; exact absurd this (by decide)
  · rw [h2]
    by_cases hi : i < A.length
    · have := h4 A.length hi (by omega)
      rw [wU] at this; exact absurd this (by decide)
    · by_cases hi2 : A.length < i
      · rw [h i hi2 (by omega)] at h3; exact absurd h3 (by decide)
      · congr 1; omega
theorem tU : ∀ (l : List UInt8) (r : List UInt8), (∀ x ∈ l, bT x.toNat = true) → (r = [] ∨ bT (r.getD 0 0).toNat = false) → jj false (l ++ r) = l.length
  | [], r, _, h => by
    cases r with
    | nil => rfl
    | cons c r =>
      rcases h with h | h
      · cases h
      · have h' : bT c.toNat = false := h
        show jj false (c :: r) = 0
        unfold jj
        rw [if_neg (by rw [h']; simp)]
  | x :: l, r, h1, h => by
    show jj false (x :: (l ++ r)) = l.length + 1
    unfold jj
    rw [if_pos (.inl (h1 x (by simp))), tU l r (fun y hy => h1 y (by simp [hy])) h]
theorem ya {c : UInt8} {l : List UInt8} (h : bT c.toNat = true ∨ c.toNat = 45) : jj true (c :: l) = jj false l + 1 := by
  show (if bT c.toNat = true ∨ (true = true ∧ c.toNat = 45) then jj false l + 1 else 0) = jj false l + 1
  rw [if_pos (by rcases h with h | h <;> simp [h])]
theorem a9d {z : Int} {r : List UInt8} (h : r = [] ∨ bT (r.getD 0 0).toNat = false) : jj true (bo z ++ r) = (bo z).length := by
  have key : ∀ l : List UInt8, l ≠ [] → (∀ x ∈ l, bT x.toNat = true) → jj true (l ++ r) = l.length := fun l hl hd => by
    cases l with
    | nil => exact absurd rfl hl
    | cons x l =>
      show jj true (x :: (l ++ r)) = l.length + 1
      rw [ya (.inl (hd x (by simp))), tU l r (fun y hy => hd y (by simp [hy])) h]
  unfold bo
  by_cases hz : z < 0
  · rw [if_pos hz]
    show jj true (45 :: (ep 10 64 (-z).toNat ++ r)) = (ep 10 64 (-z).toNat).length + 1
    rw [ya (.inr rfl), tU _ r (kO _ _) h]
  · rw [if_neg hz]
    exact key _ (rL _ _ (by decide)) (kO _ _)
theorem mC {z : Int} {r : List UInt8} (hz : -1 ≤ z ∧ z ≤ 100000) (h : r = [] ∨ bT (r.getD 0 0).toNat = false) : gZ (bo z ++ r) = (z, r) := by
  unfold gZ
  simp only [a9d h, List.take_left, List.drop_left, yo (show -9223372036854775808 ≤ z ∧ z < 9223372036854775808 by omega)]
  rw [if_pos ⟨trivial, hz⟩]
end Go.Proofs.YtbamejikafhenaaDoor.Tz
namespace Go.Proofs.YtbamejikafhenaaDoor.Tz
def w12 : List UInt8 := [58, 32, 103, 111, 114, 111, 117, 116, 105, 110, 101, 32]
def mid (o : Nat) : List UInt8 := [32] ++ cG o ++ [44, 32, 102, 114, 97, 109, 101, 115, 32]
def jn (o : Nat) : List UInt8 := if 0 < o then [44, 32] ++ b9 o else []
theorem a4k (m : cD) (y : Mk) (hf : 0 ≤ y.f) : aQ m y = bo y.step ++ (w12 ++ (bo y.g ++ (a3V m y.f.toNat ++ (bo y.at' ++ (mid y.op ++ (bo y.fr ++ jn y.out)))))) := by
  unfold aQ a3V mid jn w12
  rw [Int.toNat_of_nonneg hf]
  simp only [List.append_assoc]
theorem a6b (o : Nat) : jn o = [] ∨ bT ((jn o).getD 0 0).toNat = false := by
  unfold jn
  split
  · exact .inr rfl
  · exact .inl rfl
theorem aaq (X : List UInt8) : (w12 ++ X).drop 12 = X := List.drop_left (l₁ := w12)
theorem aan {m : cD} {y : Mk} (hn : m.n ≤ 40) (hnc : ∀ i, i < m.n → m.nc i ≤ 300) (hF : Fits m y) : wm m (aQ m y) y.f.toNat y.out = y ∧ (w4 m (aQ m y) y.f.toNat).1 = y.at' := by
  obtain ⟨⟨a1, a2, a3, a4, a5, a6, a7, a8, a9⟩, b1, b2, b3, b4, b5, b6⟩ := hF
  have hfn : y.f.toNat < m.n := by omega
  have hc := hnc y.f.toNat hfn
  have e1 : w1 (aQ m y) = (y.step, w12 ++ (bo y.g ++ (a3V m y.f.toNat ++ (bo y.at' ++ (mid y.op ++ (bo y.fr ++ jn y.out)))))) := by
    unfold w1; rw [a4k m y a5]; exact mC ⟨by omega, by omega⟩ (.inr rfl)
  have e2 : w2 (aQ m y) = (y.g, a3V m y.f.toNat ++ (bo y.at' ++ (mid y.op ++ (bo y.fr ++ jn y.out)))) := by
    unfold w2; rw [e1]; show gZ (List.drop 12 (w12 ++ _)) = _
    rw [aaq]; exact mC ⟨by omega, by omega⟩ (.inr rfl)
  have e4 : w4 m (aQ m y) y.f.toNat = (y.at', mid y.op ++ (bo y.fr ++ jn y.out)) := by
    unfold w4; rw [e2]; show gZ (List.drop _ (a3V m y.f.toNat ++ _)) = _
    rw [List.drop_left]; exact mC ⟨by omega, by omega⟩ (.inr rfl)
  have eo : wop m (aQ m y) y.f.toNat = y.op := by
    unfold wop; rw [e4]; exact b4
  have e5 : w5 m (aQ m y) y.f.toNat = (y.fr, jn y.out) := by
    unfold w5; rw [e4, eo]; show gZ (List.drop (mid y.op).length (mid y.op ++ _)) = _
    rw [List.drop_left]; exact mC ⟨by omega, by omega⟩ (a6b _)
  refine ⟨?_, by rw [e4]⟩
  unfold wm
  rw [e1, e2, e4, e5, eo]
  cases y
  simp only at a5 ⊢
  rw [Int.toNat_of_nonneg a5]
theorem aej {x : En} (h : qc x) : um (fk x) x.out = x := by
  obtain ⟨a1, a2, a3, a4, a5, a6⟩ := h
  have e0 : fk x = ([101, 110, 100, 101, 100, 32] ++ b9 x.out ++ [44, 32, 102, 97, 105, 108, 105, 110, 103, 32]) ++ (bo x.fl ++ ([44, 32, 117, 115, 101, 100, 32] ++ bo x.us)) := by
    unfold fk; simp only [List.append_assoc]
  have e1 : u1 (fk x) x.out = (x.fl, [44, 32, 117, 115, 101, 100, 32] ++ bo x.us) := by
    unfold u1; rw [e0, List.drop_left]; exact mC ⟨by omega, by omega⟩ (.inr rfl)
  have e2 : u2 (fk x) x.out = (x.us, []) := by
    unfold u2; rw [e1]
    show gZ (bo x.us) = _
    have := mC (z := x.us) (r := []) ⟨by omega, by omega⟩ (.inl rfl)
    rwa [List.append_nil] at this
  unfold um
  rw [e1, e2]
theorem a1q : ∀ n, n < 9 → ∀ x ∈ b9 n, x ≠ 44 := by decide
theorem a4F : ∀ n, n < 35 → ∀ x ∈ cG n, x ≠ 44 := by decide
theorem xP {x : En} (h : qc x) : vm (fk x) = x ∧ vOk (fk x) := by
  have hR := h
  obtain ⟨a1, a2, a3, a4, a5, a6⟩ := h
  have e0 : fk x = [101, 110, 100, 101, 100, 32] ++ (b9 x.out ++ ([44, 32, 102, 97, 105, 108, 105, 110, 103, 32] ++ (bo x.fl ++ ([44, 32, 117, 115, 101, 100, 32] ++ bo x.us)))) := by
    unfold fk; simp only [List.append_assoc]
  have e1 : v1 (fk x) = b9 x.out ++ ([44, 32, 102, 97, 105, 108, 105, 110, 103, 32] ++ (bo x.fl ++ ([44, 32, 117, 115, 101, 100, 32] ++ bo x.us))) := by
    unfold v1; rw [e0]; exact a4i _ _
  have e2 : v2 (fk x) = (b9 x.out, bo x.fl ++ ([44, 32, 117, 115, 101, 100, 32] ++ bo x.us), true) := by
    unfold v2; rw [e1]; exact a5I (a1q x.out (by omega))
  have e3 : v3 (fk x) = (x.fl, true, bo x.us) := by
    unfold v3; rw [e2]; exact sG ⟨by omega, by omega⟩ rfl
  have e4 : v4 (fk x) = (x.us, true, []) := by
    unfold v4; rw [e3]; exact yp ⟨by omega, by omega⟩
  have eo : dq (b9 x.out) = x.out := wv ⟨a1, a2⟩
  have ev : vm (fk x) = x := by
    unfold vm
    rw [e2, e3, e4]
    show En.mk (dq (b9 x.out)).toNat x.fl x.us = x
    rw [eo, Int.toNat_natCast]
  refine ⟨ev, ?_⟩
  unfold vOk
  rw [ev, e2, e3, e4]
  refine ⟨?_, by rw [e0]; exact qx _ _, rfl, rfl, rfl, rfl, hR⟩
  show ¬ dq (b9 x.out) < 1
  rw [eo]; omega
def wAt : List UInt8 := [32, 97, 116, 32]
def xq (L : List UInt8) : Prop := ∀ d, Lib.occAt L wAt d = false
theorem a3z : xq [] := fun d => by
  unfold Lib.occAt; rw [List.drop_nil]; rfl
theorem da {c : UInt8} {R : List UInt8} (h : c ≠ 32 ∨ R.getD 0 0 ≠ 97 ∨ R.getD 1 0 ≠ 116 ∨ R.getD 2 0 ≠ 32) (hR : xq R) : xq (c :: R) := fun d => by
  cases d with
  | succ d => exact hR d
  | zero =>
    show ((32 : UInt8) == c && List.isPrefixOf [97, 116, 32] R) = false
    rcases h with h | h
    · rw [show ((32 : UInt8) == c) = false from by rw [beq_eq_false_iff_ne]; exact fun e => h e.symm]; rfl
    · cases R with
      | nil => exact Bool.and_false _
      | cons a R =>
        cases R with
        | nil =>
          show ((32 : UInt8) == c && ((97 : UInt8) == a && false)) = false
          simp
        | cons b R =>
          show ((32 : UInt8) == c && ((97 : UInt8) == a && ((116 : UInt8) == b && List.isPrefixOf [32] R))) = false
          rcases h with h | h | h
          · have h' : a ≠ 97 := h
            rw [show ((97 : UInt8) == a) = false from by rw [beq_eq_false_iff_ne]; exact fun e => h' e.symm]; simp
          · have h' : b ≠ 116 := h
            rw [show ((116 : UInt8) == b) = false from by rw [beq_eq_false_iff_ne]; exact fun e => h' e.symm]; simp
          · cases R with
            | nil => simp
            | cons x R =>
              have h' : x ≠ 32 := h
              show ((32 : UInt8) == c && ((97 : UInt8) == a && ((116 : UInt8) == b && ((32 : UInt8) == x && true)))) = false
              rw [show ((32 : UInt8) == x) = false from by rw [beq_eq_false_iff_ne]; exact fun e => h' e.symm]; simp
theorem mr : ∀ {A R : List UInt8}, (∀ x ∈ A, x ≠ 32) → xq R → xq (A ++ R)
  | [], _, _, h => h
  | x :: A, R, h1, h => da (.inl (h1 x (by simp))) (mr (fun y hy => h1 y (by simp [hy])) h)
theorem xY (z : Int) : ∀ x ∈ bo z, x ≠ 32 := fun x hx e => by
  have := oZ z x hx
  rw [e] at this; exact absurd this (by decide)
theorem a1G : ∀ n, n < 9 → (∀ x ∈ b9 n, x ≠ 32) ∧ (b9 n).getD 0 0 ≠ 97 := by decide
theorem a3B : ∀ n, n < 35 → 1 ≤ n → (∀ x ∈ cG n, x ≠ 32) ∧ 2 ≤ (cG n).length ∧ ((cG n).getD 0 0 ≠ 97 ∨ (cG n).getD 1 0 ≠ 116 ∨ (cG n).length = 2) := by decide
theorem a9u {o : Nat} (h : o ≤ 8) : xq (jn o) := by
  unfold jn
  split
  · have h1 := a1G o (by omega)
    refine da (.inl (by decide)) (da (.inr (.inl h1.2)) ?_)
    have := mr h1.1 a3z
    rwa [List.append_nil] at this
  · exact a3z
theorem yb {A R : List UInt8} {i : Nat} (h : i < A.length) : (A ++ R).getD i 0 = A.getD i 0 := by
  simp only [List.getD_eq_getElem?_getD]
  rw [List.getElem?_append_left h]
theorem abH {o : Nat} {R : List UInt8} (h : 1 ≤ o ∧ o < 35) (hR : xq R) (h97 : R.getD 0 0 ≠ 97) : xq (mid o ++ R) := by
  have h1 := a3B o h.2 h.1
  have e : mid o ++ R = 32 :: (cG o ++ (44 :: 32 :: 102 :: 114 :: 97 :: 109 :: 101 :: 115 :: 32 :: R)) := by
    unfold mid; simp only [List.append_assoc]; rfl
  rw [e]
  refine da (.inr ?_) (mr h1.1 ?_)
  · rcases h1.2.2 with h2 | h2 | h2
    · left; rw [yb (by omega)]; exact h2
    · right; left; rw [yb (by omega)]; exact h2
    · right; right
      rw [show 2 = (cG o).length + 0 from h2.symm, List.getD_eq_getElem?_getD, List.getElem?_append_right (by omega)]
      simp
  · refine da (.inl (by decide)) (da (.inr (.inl (by show (102 : UInt8) ≠ 97; decide))) ?_)
    refine da (.inl (by decide)) (da (.inl (by decide)) (da (.inl (by decide)) (da (.inl (by decide)) (da (.inl (by decide)) (da (.inl (by decide)) (da (.inr (.inl h97)) hR))))))
theorem zE (z : Int) : ∃ c r, bo z = c :: r ∧ eR c = true := by
  have h := oZ z
  cases hq : bo z with
  | nil =>
    unfold bo at hq
    split at hq
    · cases hq
    · exact absurd hq (rL _ _ (by decide))
  | cons c r => exact ⟨c, r, rfl, h c (by rw [hq]; simp)⟩
theorem zn {A R w : List UInt8} {j : Nat} (h : A.length ≤ j) : Lib.occAt (A ++ R) w j = Lib.occAt R w (j - A.length) := by
  unfold Lib.occAt
  rw [List.drop_append, List.drop_eq_nil_of_le h, List.nil_append]
theorem a4s (z : Int) : ∀ x ∈ bo z, x ≠ 44 := fun x hx e => by
  have := oZ z x hx
  rw [e] at this; exact absurd this (by decide)
theorem a6a : ∀ n, n < 9 → 1 ≤ n → b9 n ≠ [] := by decide
theorem td {m : cD} {y : Mk} (hn : m.n ≤ 40) (hnc : ∀ i, i < m.n → m.nc i ≤ 300) (hF : Fits m y) :
    (q1 (aQ m y)).2.1 = true ∧ (q2 (aQ m y)).2.1 = true ∧ ¬ qi (aQ m y) < 0 ∧ (q3 (aQ m y)).2.1 = true ∧ (q4 (aQ m y)).2.1 = true ∧ (d1 (aQ m y)).2.2 = true ∧ (q5 (aQ m y)).2.1 = true ∧ ¬ gO (d1 (aQ m y)).1 < 0 ∧ ((d2 (aQ m y)).2.1 = [] ∨ ¬ dq (d2 (aQ m y)).2.1 < 1) ∧ qm (aQ m y) = y := by
  obtain ⟨⟨a1, a2, a3, a4, a5, a6, a7, a8, a9⟩, b1, b2, b3, b4, b5, b6⟩ := hF
  have hc := hnc y.f.toNat (by omega)
  generalize hB : (m.nm y.f.toNat).flatMap (fun c => iP c.toNat) = B
  generalize hZ : bo y.at' ++ (mid y.op ++ (bo y.fr ++ jn y.out)) = Z
  have hs : aQ m y = bo y.step ++ (w12 ++ (bo y.g ++ ([32, 34] ++ (((B ++ [34]) ++ ([32] ++ bo y.f)) ++ (wAt ++ Z))))) := by
    rw [a4k m y a5, hZ]
    unfold a3V j5 wAt
    rw [hB, Int.toNat_of_nonneg a5]
    simp only [List.append_assoc, List.cons_append, List.nil_append]
  have e1 : q1 (aQ m y) = (y.step, true, bo y.g ++ ([32, 34] ++ (((B ++ [34]) ++ ([32] ++ bo y.f)) ++ (wAt ++ Z)))) := by
    unfold q1; rw [hs]; exact sG ⟨by omega, by omega⟩ rfl
  have e2 : q2 (aQ m y) = (y.g, true, ((B ++ [34]) ++ ([32] ++ bo y.f)) ++ (wAt ++ Z)) := by
    unfold q2; rw [e1]; exact sG ⟨by omega, by omega⟩ rfl
  have nt : xq (bo y.fr ++ jn y.out) := mr (xY _) (a9u a9)
  have hh : (bo y.fr ++ jn y.out).getD 0 0 ≠ 97 := by
    obtain ⟨c, r, e, h⟩ := zE y.fr
    rw [e]; show c ≠ 97
    intro e; rw [e] at h; exact absurd h (by decide)
  have nz : xq Z := by rw [← hZ]; exact mr (xY _) (abH ⟨b5, b6⟩ nt hh)
  have hz : Z.getD 0 0 ≠ 97 := by
    obtain ⟨c, r, e, h⟩ := zE y.at'
    rw [← hZ, e]; show c ≠ 97
    intro e; rw [e] at h; exact absurd h (by decide)
  have nw : xq (97 :: 116 :: 32 :: Z) := da (.inl (by decide)) (da (.inl (by decide)) (da (.inr (.inl hz)) nz))
  generalize hA : (B ++ [34]) ++ ([32] ++ bo y.f) = A at *
  have ei : qi (aQ m y) = A.length := by
    unfold qi; rw [e2]
    refine a84 (w := wAt) (by decide) fun j hj _ => ?_
    rw [zn (by omega)]
    obtain ⟨d, hd⟩ : ∃ d, j - A.length = d + 1 := ⟨j - A.length - 1, by omega⟩
    rw [hd]; exact nw d
  have ej : qj (aQ m y) = (B ++ [34]).length := by
    unfold qj; rw [ei, e2, Int.toNat_natCast, List.take_left, ← hA]
    refine a84 (w := [32]) (by decide) fun j hj _ => ?_
    rw [zn (by omega)]
    obtain ⟨d, hd⟩ : ∃ d, j - (B ++ [34]).length = d + 1 := ⟨j - (B ++ [34]).length - 1, by omega⟩
    rw [hd]
    show Lib.occAt (bo y.f) [32] d = false
    by_cases hlt : d < (bo y.f).length
    · have := sV (R := []) (w := []) (xY y.f) hlt
      rwa [List.append_nil] at this
    · unfold Lib.occAt; rw [List.drop_eq_nil_of_le (by omega)]; rfl
  have e3 : q3 (aQ m y) = (y.f, true, []) := by
    unfold q3; rw [ei, ej, e2, Int.toNat_natCast, List.take_left, ← hA]
    have h1 : (((B ++ [34]).length : Int) + 1).toNat = (B ++ [34]).length + 1 := by omega
    rw [h1, ← List.drop_drop, List.drop_left]
    exact yp ⟨by omega, by omega⟩
  have e4 : q4 (aQ m y) = (y.at', true, cG y.op ++ ([44, 32, 102, 114, 97, 109, 101, 115, 32] ++ (bo y.fr ++ jn y.out))) := by
    unfold q4; rw [ei, e2, show ((A.length : Int) + 4).toNat = A.length + 4 by omega, ← List.drop_drop, List.drop_left]
    show eU Z [32] = _
    rw [← hZ]
    unfold mid
    simp only [List.append_assoc]
    exact sG (w := []) ⟨by omega, by omega⟩ rfl
  have f1 : d1 (aQ m y) = (cG y.op, bo y.fr ++ jn y.out, true) := by
    unfold d1; rw [e4]; exact a5I (a4F y.op b6)
  have eop := a9S ⟨b5, b6⟩
  have f2 : (d2 (aQ m y)).1 = bo y.fr ∧ (d2 (aQ m y)).2.1 = b9 y.out := by
    unfold d2; rw [f1]
    unfold jn
    by_cases h0 : 0 < y.out
    · rw [if_pos h0]
      show (Lib.cut (bo y.fr ++ ([44, 32] ++ b9 y.out)) [44, 32]).1 = _ ∧ _
      rw [a5I (a4s _)]; exact ⟨rfl, rfl⟩
    · rw [if_neg h0, List.append_nil]
      show (Lib.cut (bo y.fr) [44, 32]).1 = _ ∧ (Lib.cut (bo y.fr) [44, 32]).2.1 = _
      rw [aaF (a4s _), show y.out = 0 by omega]; exact ⟨rfl, rfl⟩
  have e5 : q5 (aQ m y) = (y.fr, true, []) := by
    unfold q5; rw [f2.1]; exact yp ⟨by omega, by omega⟩
  have eout : (b9 y.out = [] ∨ ¬ dq (b9 y.out) < 1) ∧ (if b9 y.out = [] then 0 else (dq (b9 y.out)).toNat) = y.out := by
    by_cases h0 : y.out = 0
    · rw [h0]; exact ⟨.inl rfl, if_pos rfl⟩
    · have e := wv (n := y.out) ⟨by omega, by omega⟩
      rw [e, if_neg (a6a y.out (by omega) (by omega))]
      exact ⟨.inr (by omega), Int.toNat_natCast _⟩
  refine ⟨by rw [e1], by rw [e2], by rw [ei]; omega, by rw [e3], by rw [e4], by rw [f1], by rw [e5], by rw [f1]; show ¬ gO (cG y.op) < 0; rw [eop]; omega, by rw [f2.2]; exact eout.1, ?_⟩
  unfold qm
  rw [f2.2, eout.2, e1, e2, e3, e4, e5, f1]
  show Mk.mk y.step y.g y.f y.at' (gO (cG y.op) + 1).toNat y.fr y.out = y
  rw [eop, show ((y.op : Int) - 1 + 1).toNat = y.op by omega]
open Classical in
noncomputable def gMk (m : cD) (s : List UInt8) : Option Mk := if h : s.length ≤ 2000 ∧ ∃ y : Mk, y.Ok ∧ Fits m y ∧ aQ m y = s then some h.2.choose else none
open Classical in
noncomputable def gEn (s : List UInt8) : Option En := if h : ∃ x : En, qc x ∧ fk x = s then some h.choose else none
theorem a8Z {m : cD} {y z : Mk} (hn : m.n ≤ 40) (hnc : ∀ i, i < m.n → m.nc i ≤ 300) (hy : Fits m y) (hz : Fits m z) (h : aQ m y = aQ m z) : y = z := by
  have h1 := (td hn hnc hy).2.2.2.2.2.2.2.2.2
  have h2 := (td hn hnc hz).2.2.2.2.2.2.2.2.2
  rw [← h1, ← h2, h]
theorem af3 {x z : En} (hx : qc x) (hz : qc z) (h : fk x = fk z) : x = z := by
  rw [← (xP hx).1, ← (xP hz).1, h]
theorem a4a {m : cD} {s : List UInt8} {y : Mk} (h : gMk m s = some y) : s.length ≤ 2000 ∧ y.Ok ∧ Fits m y ∧ aQ m y = s := by
  unfold gMk at h
  split at h
  · rename_i h1
    injection h with h
    subst h
    exact ⟨h1.1, h1.2.choose_spec⟩
  · cases h
theorem rD {m : cD} {s : List UInt8} (h : gMk m s = none) : 2000 < s.length ∨ ∀ y : Mk, y.Ok → Fits m y → aQ m y ≠ s := by
  unfold gMk at h
  split at h
  · cases h
  · rename_i h1
    by_cases hs : s.length ≤ 2000
    · exact .inr fun y h2 h3 h4 => h1 ⟨hs, y, h2, h3, h4⟩
    · exact .inl (by omega)
theorem rd7 {m : cD} (h : bz m) (hn : m.n ≤ 40) (hnc : ∀ i, i < m.n → m.nc i ≤ 300) : Rd r7 m (gMk m) where
  yes := fun {s x} hs hx => by
    obtain ⟨h1, h2, h3, h4⟩ := a4a hx
    obtain ⟨p1, p2, p3, p4, p5, p6, p7, p8, p9, p10⟩ := td hn hnc h3
    rw [h4] at p1 p2 p3 p4 p5 p6 p7 p8 p9 p10
    refine ⟨h2, ?_⟩
    have := (a5n h hn hnc h1).2 p1 p2 p3 p4 p5 p6 p7 p8 p9 (by rw [p10]; exact h3) (by rw [p10]; exact h4)
    rw [this, p10]
  no := fun {s} hs hx => by
    by_cases h1 : s.length ≤ 2000
    · obtain ⟨v, e, hv⟩ := (a5n h hn hnc h1).1
      rcases hv with rfl | ⟨x, k1, k2, k3, _⟩
      · exact ⟨12, by omega, by omega, e⟩
      · rcases rD hx with g | g
        · omega
        · exact absurd k3 (g x k1 k2)
    · exact ⟨4, by omega, by omega, a7Z h (by omega) hs⟩
theorem rd8 {m : cD} (h : bz m) (hn : m.n ≤ 40) (hnc : ∀ i, i < m.n → m.nc i ≤ 300) (hnm : ∀ i, i < m.n → (m.nm i).length ≤ 40) : Rd r8 m (gMk m) where
  yes := fun {s x} hs hx => by
    obtain ⟨h1, h2, h3, h4⟩ := a4a hx
    refine ⟨h2, ?_⟩
    rcases a5K h hn hnc hnm h1 with ⟨y, k1, k2, k3, k4⟩ | ⟨k1, k2⟩
    · rw [k4, a8Z hn hnc h3 k2 (h4.trans k3.symm)]
    · have hd := aan hn hnc h3
      rw [h4] at hd
      obtain ⟨⟨a1, a2, a3, a4, a5, a6, a7, a8, a9⟩, b1, b2, b3, b4⟩ := id h3
      exact absurd ⟨by rw [hd.1]; exact h3, by rw [hd.1]; exact h4⟩ (k1 x.f.toNat x.out (by omega) a9 (by rw [hd.2]; exact b2) (by rw [hd.2]; exact b3))
  no := fun {s} hs hx => by
    by_cases h1 : s.length ≤ 2000
    · rcases a5K h hn hnc hnm h1 with ⟨y, k1, k2, k3, k4⟩ | ⟨k1, k2⟩
      · rcases rD hx with g | g
        · omega
        · exact absurd k3 (g y k1 k2)
      · exact ⟨12, by omega, by omega, k2⟩
    · exact ⟨4, by omega, by omega, a7k (by omega) hs⟩
theorem a3Z {s : List UInt8} {x : En} (h : gEn s = some x) : qc x ∧ fk x = s := by
  unfold gEn at h
  split at h
  · rename_i h1
    injection h with h
    subst h
    exact h1.choose_spec
  · cases h
theorem a2Q {s : List UInt8} (h : gEn s = none) : ∀ x : En, qc x → fk x ≠ s := by
  unfold gEn at h
  split at h
  · cases h
  · rename_i h1
    exact fun x h2 h3 => h1 ⟨x, h2, h3⟩
theorem qc.ok {x : En} (h : qc x) : x.Ok := by
  obtain ⟨a1, a2, a3, a4, a5, a6⟩ := h
  exact ⟨by omega, ⟨by omega, by omega⟩, ⟨by omega, by omega⟩⟩
theorem ed40 : Ed r40 gEn where
  yes := fun {s x} hs hx => by
    obtain ⟨h1, h2⟩ := a3Z hx
    refine ⟨h1.ok, ?_⟩
    rcases a6N hs with ⟨y, k1, k2, k3⟩ | ⟨k1, k2⟩
    · rw [k3, af3 h1 k1 (h2.trans k2.symm)]
    · have hd := aej h1
      rw [h2] at hd
      exact absurd ⟨by rw [hd]; exact h1, by rw [hd]; exact h2⟩ (k1 x.out h1.1 h1.2.1)
  no := fun {s} hs hx => by
    rcases a6N hs with ⟨y, k1, k2, k3⟩ | ⟨k1, k2⟩
    · exact absurd k2 (a2Q hx y k1)
    · exact ⟨⟨0, 0, 0⟩, k2⟩
theorem a0c {n : Nat} (h : bT n = true) : 48 ≤ n ∧ n ≤ 57 := by
  unfold bT at h
  rw [Bool.and_eq_true, bA, bA] at h; exact h
theorem aj4 {c : UInt8} (h : bT c.toNat = true) : dg (c.toNat - 48) = c := by
  have h1 := a0c h
  have key : ∀ n, n < 10 → dg n = (48 + n).toUInt8 := by decide
  rw [key _ (by omega), show 48 + (c.toNat - 48) = c.toNat by omega]; exact UInt8.ofNat_toNat
theorem yn : ∀ (k : Nat) (l : List UInt8) (f : Nat), l.length = k → 1 ≤ k → k ≤ f → (∀ x ∈ l, bT x.toNat = true) → (2 ≤ k → (l.getD 0 0).toNat ≠ 48) → ep 10 f (dc l) = l ∧ (2 ≤ k ∨ (l.getD 0 0).toNat ≠ 48 → 10 ^ (k - 1) ≤ dc l)
  | 0, _, _, _, h, _, _, _ => absurd h (by decide)
  | k + 1, l, 0, _, _, h, _, _ => absurd h (by omega)
  | k + 1, l, f + 1, hk, _, hf, hd, h0 => by
    have hne : l ≠ [] := by intro e; rw [e] at hk; simp at hk
    obtain ⟨l', c, rfl⟩ : ∃ l' c, l = l' ++ [c] := ⟨l.dropLast, l.getLast hne, (List.dropLast_concat_getLast hne).symm⟩
    have hl' : l'.length = k := by rw [List.length_append] at hk; simp only [List.length_cons, List.length_nil] at hk; omega
    have hc := a0c (hd c (by simp))
    have hdc := aj4 (hd c (by simp))
    rw [mU]
    unfold ep
    rcases Nat.eq_zero_or_pos k with rfl | hkp
    · have : l' = [] := List.length_eq_zero_iff.1 hl'
      subst this
      have hv : dc [] = 0 := rfl
      rw [hv, if_pos (by omega)]
      refine ⟨?_, fun h => ?_⟩
      · rw [show (0 * 10 + (c.toNat - 48)) % 10 = c.toNat - 48 by omega, hdc]; rfl
      · rcases h with h | h
        · omega
        · have h' : c.toNat ≠ 48 := h
          show 1 ≤ _
          omega
    · have hg : (l' ++ [c]).getD 0 0 = l'.getD 0 0 := yb (by omega)
      have h48 : (l'.getD 0 0).toNat ≠ 48 := by rw [← hg]; exact h0 (by omega)
      obtain ⟨i1, i2⟩ := yn k l' f hl' hkp (by omega) (fun x hx => hd x (by simp [hx])) fun _ => h48
      have i3 := i2 (.inr h48)
      have hpos : 1 ≤ 10 ^ (k - 1) := Nat.one_le_pow _ _ (by decide)
      rw [if_neg (by omega), show (dc l' * 10 + (c.toNat - 48)) / 10 = dc l' by omega, i1, show (dc l' * 10 + (c.toNat - 48)) % 10 = c.toNat - 48 by omega, hdc]
      refine ⟨rfl, fun _ => ?_⟩
      have : 10 ^ (k + 1 - 1) = 10 ^ (k - 1) * 10 := by rw [← Nat.pow_succ]; congr 1; omega
      omega
theorem zG {l : List UInt8} {most : Nat} (h : (bq l most).2 = 0) : okD l ∧ dc l ≤ most ∧ (bq l most).1 = dc l := by
  unfold bq at h ⊢
  by_cases h1 : okD l
  · rw [if_pos h1] at h ⊢
    by_cases h2 : dc l ≤ most
    · rw [if_pos h2]; exact ⟨h1, h2, rfl⟩
    · rw [if_neg h2] at h; exact absurd h (by decide)
  · rw [if_neg h1] at h; exact absurd h (by decide)
theorem a3o {l : List UInt8} (h : okD l) (h2 : dc l ≤ 9223372036854775808) : ep 10 64 (dc l) = l := by
  obtain ⟨h1, hd, h0⟩ := h
  have hk : 1 ≤ l.length := by
    rcases l with _ | ⟨x, l⟩
    · exact absurd rfl h1
    · simp only [List.length_cons]; omega
  have hd' : ∀ x ∈ l, bT x.toNat = true := fun x hx => by
    obtain ⟨i, hi, rfl⟩ := List.getElem_of_mem hx
    have := hd i hi
    simpa [List.getD, List.getElem?_eq_getElem hi] using this
  have hle : l.length ≤ 64 := by
    by_cases h64 : l.length ≤ 64
    · exact h64
    · have := (yn l.length l l.length rfl hk (Nat.le_refl _) hd' h0).2 (.inl (by omega))
      have hp : 10 ^ 64 ≤ 10 ^ (l.length - 1) := Nat.pow_le_pow_right (by decide) (by omega)
      have := agc
      omega
  exact (yn l.length l 64 rfl hk hle hd' h0).1
theorem af2 {l : List UInt8} {z : Int} (h : qU l = (z, 0)) : l = bo z := by
  unfold qU at h
  split at h
  · injection h with _ h; exact absurd h (by decide)
  · rename_i hl
    split at h
    · rename_i h45
      have h2 : (bq (l.drop 1) 9223372036854775808).2 = 0 := by
        by_cases c : (bq (l.drop 1) 9223372036854775808).2 = 0
        · exact c
        · simp only [c, if_false] at h; injection h with _ h
      simp only [h2, if_true] at h
      obtain ⟨k1, k2, k3⟩ := zG h2
      rw [k3] at h
      by_cases c : dc (l.drop 1) = 0
      · rw [if_pos c] at h; injection h with _ h; exact absurd h (by decide)
      · rw [if_neg c] at h
        injection h with h _
        unfold bo
        rw [if_pos (by omega), show (-z).toNat = dc (l.drop 1) by omega, a3o k1 k2]
        rcases l with _ | ⟨x, l⟩
        · exact absurd h45 (by decide)
        · have hx : x = 45 := h45
          rw [hx]; rfl
    · simp only at h
      injection h with h h2
      obtain ⟨k1, k2, k3⟩ := zG h2
      rw [k3] at h
      unfold bo
      rw [if_neg (by omega), show z.toNat = dc l by omega, a3o k1 (by omega)]
theorem a3X {s w : List UInt8} (h : Lib.hasPrefix s w = true) : w ++ Lib.trimPrefix s w = s := by
  unfold Lib.trimPrefix
  rw [if_pos h]
  obtain ⟨r, rfl⟩ := List.isPrefixOf_iff_prefix.1 (show w.isPrefixOf s = true from h)
  rw [List.drop_left]
theorem afF {s w : List UInt8} (h : (Lib.cut s w).2.2 = true) : (Lib.cut s w).1 ++ (w ++ (Lib.cut s w).2.1) = s := by
  unfold Lib.cut at h ⊢
  rcases Lib.index_spec s w with ⟨h1, _⟩ | ⟨i, h1, h2, h3, _⟩
  · rw [h1, if_neg (by decide)] at h; exact absurd h Bool.false_ne_true
  · rw [h1, if_pos (by omega), Int.toNat_natCast]
    obtain ⟨r, hr⟩ := List.isPrefixOf_iff_prefix.1 (show w.isPrefixOf (s.drop i) = true from h3)
    show s.take i ++ (w ++ s.drop (i + w.length)) = s
    rw [← List.drop_drop, ← hr, List.drop_left, hr, List.take_append_drop]
theorem a3s {s w : List UInt8} (h : (eU s w).2.1 = true) : bo (eU s w).1 ++ (w ++ (eU s w).2.2) = s := by
  have h' : (Lib.hasPrefix (s.drop (bQ s)) w && decide ((qU (s.take (bQ s))).2 = 0)) = true := h
  rw [Bool.and_eq_true, decide_eq_true_eq] at h'
  show bo (qU (s.take (bQ s))).1 ++ (w ++ Lib.trimPrefix (s.drop (bQ s)) w) = s
  rw [a3X h'.1, ← af2 (l := s.take (bQ s)) (by rw [← h'.2]), List.take_append_drop]
theorem zZ (s : List UInt8) : ∀ (l : List (List UInt8)) (i : Nat), jG s l i ≠ -1 → l.getD (jG s l i - i).toNat [] = s
  | [], _, h => absurd rfl h
  | a :: l, i, h => by
    unfold jG at h ⊢
    by_cases c : s = a
    · rw [if_pos c, show ((i : Int) - i).toNat = 0 by omega]; exact c.symm
    · rw [if_neg c] at h ⊢
      have ih := zZ s l (i + 1) h
      rcases vB s l (i + 1) with e | e
      · exact absurd e h
      · rw [show (jG s l (i + 1) - i).toNat = (jG s l (i + 1) - (i + 1 : Nat)).toNat + 1 by omega]
        exact ih
theorem a5j {s : List UInt8} (h : ¬ dq s < 1) : b9 (dq s).toNat = s := by
  have := zZ s qS 0 (by intro e; have : dq s = -1 := e; omega)
  have e : dq s - ((0 : Nat) : Int) = dq s := by omega
  unfold b9
  rw [← e]; exact this
theorem ahE {s : List UInt8} (h : vOk s) : qc (vm s) ∧ fk (vm s) = s := by
  obtain ⟨h1, h2, h3, h4, h5, h6, h7⟩ := h
  refine ⟨h7, ?_⟩
  have k4 : bo (v4 s).1 = (v3 s).2.2 := by
    have := a3s (s := (v3 s).2.2) (w := []) h5
    rw [show (eU (v3 s).2.2 []) = v4 s from rfl, h6] at this
    simpa using this
  have k3 : bo (v3 s).1 ++ ([44, 32, 117, 115, 101, 100, 32] ++ (v3 s).2.2) = (v2 s).2.1 := a3s h4
  have k2 : (v2 s).1 ++ ([44, 32, 102, 97, 105, 108, 105, 110, 103, 32] ++ (v2 s).2.1) = v1 s := afF h3
  have k1 : [101, 110, 100, 101, 100, 32] ++ v1 s = s := a3X h2
  have ko := a5j h1
  have e0 : fk (vm s) = [101, 110, 100, 101, 100, 32] ++ (b9 (dq (v2 s).1).toNat ++ ([44, 32, 102, 97, 105, 108, 105, 110, 103, 32] ++ (bo (v3 s).1 ++ ([44, 32, 117, 115, 101, 100, 32] ++ bo (v4 s).1)))) := by
    unfold fk vm; simp only [List.append_assoc]
  rw [e0, ko, k4, k3, k2, k1]
theorem ed38 : Ed r38 gEn where
  yes := fun {s x} hs hx => by
    obtain ⟨h1, h2⟩ := a3Z hx
    obtain ⟨p1, p2⟩ := xP h1
    rw [h2] at p1 p2
    refine ⟨h1.ok, ?_⟩
    rw [(a8e hs).1 p2, p1]
  no := fun {s} hs hx => by
    refine (a8e hs).2 fun hv => ?_
    obtain ⟨h1, h2⟩ := ahE hv
    exact a2Q hx _ h1 h2
end Go.Proofs.YtbamejikafhenaaDoor.Tz
namespace Go.Proofs.YtbamejikafhenaaDoor.Ev
section
variable {M : Mem} (ok : oK M)
include ok
end
theorem abx {z : ZK} {v : AV} {l : Row} {hp : Hp} {k : Row → Hp → aa} : zl z (.nd v .lf l) hp k = z.f hp v fun v hp => zl z l hp fun r hp => k (.nd v .lf r) hp := rfl
section
variable {line right outc whole : bN} {m a x xa xb xc : AV} {t : Row} {o n k i : Nat} {acc s word f u : List UInt8} {c : Nat}
theorem a9Y (h1 : mkF (t.at (o + i)) = true) (h2 : oJ (db (line.f (.nd m .lf (.nd (t.at (o + i)) .lf .lf)) .empty)) = some (s, 0)) : gz line m t o (k + 1) i acc = gz line m t o k (i + 1) (acc ++ (s ++ [10])) := by
  rw [gz, if_pos h1, h2]; rfl
theorem a6h (h1 : mkF (t.at (o + i)) = true) (h2 : oJ (db (line.f (.nd m .lf (.nd (t.at (o + i)) .lf .lf)) .empty)) = some (s, c)) (hc : c ≠ 0) : gz line m t o (k + 1) i acc = some ([], c) := by
  rw [gz, if_pos h1, h2]; exact if_neg hc
theorem a2o (h1 : bOf (db (right.f (.nd x .lf .lf) .empty)) = some false) : mn right outc whole x xa xb xc acc = some ([], 8) := by
  rw [mn, h1]
theorem a3P (h1 : bOf (db (right.f (.nd x .lf .lf) .empty)) = some true) (h2 : oJ (db (outc.f (.nd xa .lf .lf) .empty)) = some (word, 0)) (h3 : sOf (db (whole.f (.nd xb .lf .lf) .empty)) = some f) (h4 : sOf (db (whole.f (.nd xc .lf .lf) .empty)) = some u) :
    mn right outc whole x xa xb xc acc = some (acc ++ a0L word f u, 0) := by
  rw [mn, h1]; dsimp only; rw [h2]; dsimp only; rw [h3]; dsimp only; rw [h4]; rfl
theorem vY (h1 : jL a = some (t, o, n)) (h2 : a3v m = true) (h3 : uf x = some (xa, xb, xc)) (h4 : 2000 < n) : lq line right outc whole m a x = some ([], 4) := by
  rw [lq, h1]; dsimp only; rw [if_pos h2, h3]; dsimp only; rw [if_pos h4]
theorem zJ (h1 : jL a = some (t, o, n)) (h2 : a3v m = true) (h3 : uf x = some (xa, xb, xc)) (h4 : ¬ 2000 < n) (h5 : gz line m t o n 0 [] = some (acc, c)) (h6 : c ≠ 0) : lq line right outc whole m a x = some ([], c) := by
  rw [lq, h1]; dsimp only; rw [if_pos h2, h3]; dsimp only; rw [if_neg h4, h5]; dsimp only; rw [if_neg h6]
theorem a2K (h1 : jL a = some (t, o, n)) (h2 : a3v m = true) (h3 : uf x = some (xa, xb, xc)) (h4 : ¬ 2000 < n) (h5 : gz line m t o n 0 [] = some (acc, 0)) : lq line right outc whole m a x = mn right outc whole x xa xb xc acc := by
  rw [lq, h1]; dsimp only; rw [if_pos h2, h3]; dsimp only; rw [if_neg h4, h5]; dsimp only; rw [if_pos rfl]
theorem abX {T : List UInt8} {z : Nat} (h : lq line right outc whole m a x = some (T, z)) : db ((a3C line right outc whole).f (.nd m .lf (.nd a .lf (.nd x .lf .lf))) .empty) = some (.bB (.nd (S T) .lf (.nd (I (z : Int)) .lf .lf)) 2) := by
  unfold a3C
  dsimp only
  rw [h]; rfl
end
end Go.Proofs.YtbamejikafhenaaDoor.Ev
namespace Go.Proofs.YtbamejikafhenaaDoor.Tz
attribute [local irreducible] mem
theorem acG {l : List UInt8} {z : Int} (k : Nat) (hk : z = k) (hl : l.length ≤ 1000000) (hz : k ≤ 1000) : oJ (some (.bB (.nd (S l) .lf (.nd (I z) .lf .lf)) 2)) = some (l, k) := by
  show (if 3 = 3 ∧ (z % 18446744073709551616).toNat ≤ 1000 ∧ l.length ≤ 1000000 then some (vz l.length (aL l), (z % 18446744073709551616).toNat) else none) = _
  have e : (z % 18446744073709551616).toNat = k := by omega
  rw [e, if_pos ⟨rfl, hz, hl⟩, fQ]
theorem s_ok {l : List UInt8} (hl : l.length ≤ 1000000) : sOf (some (S l)) = some l := by
  show (if l.length ≤ 1000000 then some (vz l.length (aL l)) else none) = _
  rw [if_pos hl, fQ]
theorem adk (x : Mk) : mkF x.av = true := by
  show decide (7 = 7 ∧ 3 = 3 ∧ 3 = 3 ∧ 3 = 3 ∧ 3 = 3 ∧ 4 = 4 ∧ 3 = 3 ∧ 4 = 4) = true
  decide
theorem a3Y {m : cD} (h : bz m) (hn : m.n ≤ 40) (hnc : ∀ i, i < m.n → m.nc i ≤ 300) {M : Nat → Mk} {n : Nat} {t : Row} (hR : dV 7 n t fun i => (M i).l) (hM : ∀ i, i < n → (M i).Ok) : ∀ k i, i + k = n → (∀ j, j < i → Fits m (M j)) →
    ((∀ j, j < n → Fits m (M j)) → gz r5 m.av t 0 k i (pR m M i) = some (pR m M n, 0)) ∧ (¬ (∀ j, j < n → Fits m (M j)) → gz r5 m.av t 0 k i (pR m M i) = some ([], 8))
  | 0, i, hi, hf => by
    obtain rfl : i = n := hi
    exact ⟨fun _ => rfl, fun h => absurd hf h⟩
  | k + 1, i, hi, hf => by
    have hin : i < n := by omega
    have e : t.at (0 + i) = (M i).av := by rw [Nat.zero_add]; exact (hR i hin).1
    have e5 := agK h hn hnc (hM i hin)
    by_cases hF : Fits m (M i)
    · rw [if_pos hF] at e5
      have hl := mQ hF
      have es : gz r5 m.av t 0 (k + 1) i (pR m M i) = gz r5 m.av t 0 k (i + 1) (pR m M (i + 1)) :=
        a9Y (by rw [e]; exact adk _) (by rw [e, e5]; exact acG (z := (0 : Int)) 0 rfl (by omega) (by decide))
      rw [es]
      exact a3Y h hn hnc hR hM k (i + 1) (by omega) fun j hj => by
        rcases Nat.lt_succ_iff_lt_or_eq.1 hj with q | rfl
        · exact hf j q
        · exact hF
    · refine ⟨fun q => absurd (q i hin) hF, fun _ => ?_⟩
      rw [if_neg hF] at e5
      exact a6h (s := []) (c := 8) (by rw [e]; exact adk _) (by rw [e, e5]; exact acG (z := (8 : Int)) (l := []) 8 rfl (Nat.zero_le _) (by decide)) (by decide)
set_option maxRecDepth 100000 in
theorem afM {x : En} (hx : x.Ok) (acc : List UInt8) : mn r33 r20 r19 x.av (B8 x.out) (I x.fl) (I x.us) acc = some (if qc x then (acc ++ fk x ++ [10], 0) else ([], 8)) := by
  obtain ⟨h1, h2, h3⟩ := hx
  have e33 : db (r33.f (.nd x.av .lf .lf) .empty) = some (.bool (decide (1 ≤ x.out ∧ x.out ≤ 8 ∧ -1 ≤ x.fl ∧ x.fl < 16 ∧ 0 ≤ x.us ∧ x.us ≤ 2000))) := adh (o := x.out) h2 h3
  by_cases hr : qc x
  · rw [if_pos hr]
    have l1 := fO x.out
    have l2 := cA x.fl
    have l3 := cA x.us
    obtain ⟨p1, q1⟩ := a6d h2
    obtain ⟨p2, q2⟩ := a6d h3
    have ez : lK x.out = 0 := if_pos ⟨hr.1, hr.2.1⟩
    have e := a3P (right := r33) (outc := r20) (whole := r19) (x := x.av) (xa := B8 x.out) (xb := I x.fl) (xc := I x.us) (acc := acc) (word := b9 x.out) (f := bo x.fl) (u := bo x.us)
      (by rw [e33]; show some (decide (qc x)) = _; rw [decide_eq_true hr]) (by rw [abn h1]; exact acG 0 (by rw [ez]) (by omega) (by decide)) (by rw [q1]; exact s_ok (by omega)) (by rw [q2]; exact s_ok (by omega))
    have q : acc ++ a0L (b9 x.out) (bo x.fl) (bo x.us) = acc ++ fk x ++ [10] := by
      unfold a0L fk
      simp only [List.append_assoc]
    rw [e, q]
  · rw [if_neg hr]
    exact a2o (by rw [e33]; show some (decide (qc x)) = _; rw [decide_eq_false hr])
theorem r9_ok {m : cD} (h : bz m) (hn : m.n ≤ 40) (hnc : ∀ i, i < m.n → m.nc i ≤ 300) {M : Nat → Mk} {n : Nat} {a : AV} {t : Row} {x : En} (hsl : vl m.ty = true ∧ vl m.tx = true ∧ vl m.fs = true) (ha : jL a = some (t, 0, n)) (hR : dV 7 n t fun i => (M i).l) (hM : ∀ i, i < n → (M i).Ok) (hx : x.Ok) : db (r9.f (.nd m.av .lf (.nd a .lf (.nd x.av .lf .lf))) .empty) = some (.bB (.nd (S (txR m M n x).1) .lf (.nd (I (txR m M n x).2) .lf .lf)) 2) := by
  have ht : lq r5 r33 r20 r19 m.av a x.av = some ((txR m M n x).1, (txR m M n x).2.toNat) := by
    have ei : a3v m.av = true := by
      show (decide (3 = 3) && vl m.ty && vl m.tx && vl m.fs) = true
      rw [hsl.1, hsl.2.1, hsl.2.2]; rfl
    have ee : uf x.av = some (B8 x.out, I x.fl, I x.us) := by
      show (if 3 = 3 ∧ 4 = 4 ∧ 3 = 3 ∧ 3 = 3 then some (B8 x.out, I x.fl, I x.us) else none) = _
      rw [if_pos ⟨rfl, rfl, rfl, rfl⟩]
    unfold txR
    by_cases h2 : 2000 < n
    · simp only [if_pos h2]; exact vY ha ei ee h2
    · simp only [if_neg h2]
      obtain ⟨L1, L2⟩ := a3Y h hn hnc hR hM n 0 (Nat.zero_add n) fun j hj => absurd hj (Nat.not_lt_zero j)
      by_cases hal : ∀ j, j < n → Fits m (M j)
      · rw [if_pos hal, a2K ha ei ee h2 (L1 hal), afM hx]
        split <;> rfl
      · rw [if_neg hal]
        exact zJ ha ei ee h2 (L2 hal) (by decide)
  have hz : 0 ≤ (txR m M n x).2 := by unfold txR; split <;> (try split) <;> (try split) <;> simp
  have e := abX ht
  rw [Int.toNat_of_nonneg hz] at e
  exact e
end Go.Proofs.YtbamejikafhenaaDoor.Tz
namespace Go.Proofs.YtbamejikafhenaaDoor.Tz
noncomputable section
def a62 : Sm := aC cr3 [1, 0, 1]
def fin3 : aa → aa := eN cr3
theorem t3 (x0 x1 x2 x3 x4 x5 : AV) (hp : Hp) : r3.f (.nd x0 .lf (.nd x1 .lf (.nd x2 .lf (.nd x3 .lf (.nd x4 .lf (.nd x5 .lf .lf)))))) hp = fin3 (cF mem (aY mem) x0 3 3 hp (fun v0 v1 => cF mem (aY mem) x1 7 7 v1 (fun v2 v3 => cF mem (aY mem) x3 3 3 v3 (fun v4 v5 => aq mem true 3 v0 v5 (fun v6 => au mem false r4 (.nd v6 .lf (.nd x2 .lf .lf)) v5 (fun v7 v8 => gd v7 false v8 (fun k9 => k9 x4 v8) (fun v10 v11 => gd v7 false v11 (fun k12 => cz mem 0 v10 v11 (fun v13 => ar (Nat.ble v13 9223372036854775807) (k12 (.int 3 v13) v11))) (fun v14 v15 => gd v7 false v15 (fun k16 => (ae .gtr 3).f v14 (.int 3 2100) (fun v17 => k16 v17 v15)) (fun v18 v19 => aI v7 (fun v20 => v20 (.bool true)) (fun v21 => v21 v18) (fun v22 => gd v22 false v19 (fun k23 => k23 x5 v19) (fun v24 v25 => gd v22 false v25 (fun k26 => cz mem 0 v24 v25 (fun v27 => ar (Nat.ble v27 9223372036854775807) (k26 (.int 3 v27) v25))) (fun v28 v29 => gd v22 false v29 (fun k30 => (ae .gtr 3).f v28 (.int 3 4000) (fun v31 => k30 v31 v29)) (fun v32 v33 => gd v22 false v33 (fun k34 => k34 v32 v33) (fun v35 v36 => gd v35 true v36 (fun k37 => k37 x5 v36) (fun v38 v39 => gd v35 true v39 (fun k40 => cz mem 0 v38 v39 (fun v41 => ar (Nat.ble v41 9223372036854775807) (k40 (.int 3 v41) v39))) (fun v42 v43 => gd v35 true v43 (fun k44 => (ae .leq 3).f v42 (.int 3 300000) (fun v45 => k44 v45 v43)) (fun v46 v47 => gd v22 false v47 (fun k48 => aI v35 (fun v49 => v49 v46) (fun v50 => v50 (.bool false)) (fun v51 => k48 v51 v47)) (fun v52 v53 => aI v22 (fun v54 => v54 (.bool true)) (fun v55 => v55 v52) (fun v56 => gd v56 false v53 (fun k57 => k57 x5 v53) (fun v58 v59 => gd v56 false v59 (fun k60 => cz mem 0 v58 v59 (fun v61 => ar (Nat.ble v61 9223372036854775807) (k60 (.int 3 v61) v59))) (fun v62 v63 => gd v56 false v63 (fun k64 => (ae .gtr 3).f v62 (.int 3 300100) (fun v65 => k64 v65 v63)) (fun v66 v67 => aI v56 (fun v68 => v68 (.bool true)) (fun v69 => v69 v66) (fun v70 => AV.ay v70 (fun v71 => when v71 (.ret (.n x0 x1 x2 x3 x4 x5 (.bool true) v0 (.n v2 v4 .uu .uu .uu .uu .uu .uu .e)) v67) ((a62).run .lf (.n x0 x1 x2 x3 x4 x5 (.bool false) v0 (.n v2 v4 .uu .uu .uu .uu .uu .uu .e)) v67))))))))))))))))))))))))) := (congrArg (fun F => bN.f F (.nd x0 .lf (.nd x1 .lf (.nd x2 .lf (.nd x3 .lf (.nd x4 .lf (.nd x5 .lf .lf)))))) hp) (ba cr3).symm).trans (by kernel_rfl)
theorem ab8 (x0 x1 x2 x3 x4 x5 x6 x7 x8 x9 : AV) (hp : Hp) : fin3 (.ret (.n x0 x1 x2 x3 x4 x5 x6 x7 (.n x8 x9 .uu .uu .uu .uu .uu .uu .e)) hp) = .val x6 hp := by kernel_rfl
theorem a9w (x0 x1 x2 x3 x4 x5 x6 x7 x8 x9 : AV) (hp : Hp) : (a62).run .lf (.n x0 x1 x2 x3 x4 x5 x6 x7 (.n x8 x9 .uu .uu .uu .uu .uu .uu .e)) hp = aq mem true 3 x7 hp (fun v72 => aq mem true 7 x8 hp (fun v73 => au mem false r5 (.nd v72 .lf (.nd v73 .lf .lf)) hp (fun v74 v75 => bg 0 v74 (fun v76 => bg 1 v74 (fun v77 => aq mem true 3 x7 v75 (fun v78 => aq mem true 7 x8 v75 (fun v79 => au mem false r6 (.nd v78 .lf (.nd v79 .lf .lf)) v75 (fun v80 v81 => bg 0 v80 (fun v82 => bg 1 v80 (fun v83 => aq mem true 3 x7 v81 (fun v84 => au mem false r7 (.nd v84 .lf (.nd x4 .lf .lf)) v81 (fun v85 v86 => bg 0 v85 (fun v87 => bg 1 v85 (fun v88 => cF mem (aY mem) (AV.agg (aw [.int 3 0, .int 3 0, .int 3 0, .int 3 0, .int 4 0, .int 3 0, .int 4 0]) 7) 7 7 v86 (fun v89 v90 => aH mem 7 v89 v87 v90 (fun v91 => aq mem true 3 x7 v91 (fun v92 => au mem false r8 (.nd v92 .lf (.nd x4 .lf .lf)) v91 (fun v93 v94 => bg 0 v93 (fun v95 => bg 1 v93 (fun v96 => cF mem (aY mem) (AV.agg (aw [.int 3 0, .int 3 0, .int 3 0, .int 3 0, .int 4 0, .int 3 0, .int 4 0]) 7) 7 7 v94 (fun v97 v98 => aH mem 7 v97 v95 v98 (fun v99 => aq mem true 3 x7 v99 (fun v100 => aq mem true 3 x9 v99 (fun v101 => au mem false r9 (.nd v100 .lf (.nd x2 .lf (.nd v101 .lf .lf))) v99 (fun v102 v103 => bg 0 v102 (fun v104 => bg 1 v102 (fun v105 => aq mem true 3 x7 v103 (fun v106 => aq mem true 3 x9 v103 (fun v107 => au mem false r10 (.nd v106 .lf (.nd x2 .lf (.nd v107 .lf .lf))) v103 (fun v108 v109 => bg 0 v108 (fun v110 => bg 1 v108 (fun v111 => aq mem true 3 x7 v109 (fun v112 => au mem false r11 (.nd v112 .lf (.nd x5 .lf .lf)) v109 (fun v113 v114 => bg 0 v113 (fun v115 => bg 1 v113 (fun v116 => bg 2 v113 (fun v117 => cF mem (aY mem) (AV.agg (aw [.int 4 0, .int 3 0, .int 3 0]) 3) 3 3 v114 (fun v118 v119 => aH mem 3 v118 v116 v119 (fun v120 => aq mem true 3 x7 v120 (fun v121 => au mem false r12 (.nd v121 .lf (.nd x5 .lf .lf)) v120 (fun v122 v123 => bg 0 v122 (fun v124 => bg 1 v122 (fun v125 => bg 2 v122 (fun v126 => cF mem (aY mem) (AV.agg (aw [.int 4 0, .int 3 0, .int 3 0]) 3) 3 3 v123 (fun v127 v128 => aH mem 3 v127 v125 v128 (fun v129 => eY 53 v129 (fun v130 => aq mem true 3 x7 v130 (fun v131 => aq mem true 7 x8 v130 (fun v132 => aq mem true 3 x7 v130 (fun v133 => aq mem true 7 x8 v130 (fun v134 => cO mem .nil (.cons (fun v138 => v138 x8) (.cons (fun v139 => v139 x7) .nil)) v130 (fun h135 => au mem false r13 (.nd v131 .lf (.nd v132 .lf .lf)) h135 (fun v136 v137 => .val v136 v137)) (fun v140 v141 => cO mem .nil .nil v140 (fun h142 => au mem false r14 (.nd v133 .lf (.nd v134 .lf .lf)) h142 (fun v143 v144 => .val v143 v144)) (fun v145 v146 => (ae .eql 3).f v141 v146 (fun v147 => gd v147 true v145 (fun k148 => k148 v76 v145) (fun v149 v150 => gd v147 true v150 (fun k151 => k151 v82 v150) (fun v152 v153 => gd v147 true v153 (fun k154 => (cx .eql).f v149 v152 (fun v155 => k154 v155 v153)) (fun v156 v157 => aI v147 (fun v158 => v158 v156) (fun v159 => v159 (.bool false)) (fun v160 => gd v160 true v157 (fun k161 => k161 v77 v157) (fun v162 v163 => gd v160 true v163 (fun k164 => k164 v83 v163) (fun v165 v166 => gd v160 true v166 (fun k167 => (ae .eql 3).f v162 v165 (fun v168 => k167 v168 v166)) (fun v169 v170 => aI v160 (fun v171 => v171 v169) (fun v172 => v172 (.bool false)) (fun v173 => gd v173 true v170 (fun k174 => aq mem true 7 v89 v170 (fun v175 => k174 v175 v170)) (fun v176 v177 => gd v173 true v177 (fun k178 => aq mem true 7 v97 v177 (fun v179 => k178 v179 v177)) (fun v180 v181 => gd v173 true v181 (fun k182 => (wi (.cells (.cons 5 (.cons 5 (.cons 5 (.cons 5 (.cons 6 (.cons 5 (.cons 6 .nil)))))))) .eql).f v176 v180 (fun v183 => k182 v183 v181)) (fun v184 v185 => aI v173 (fun v186 => v186 v184) (fun v187 => v187 (.bool false)) (fun v188 => gd v188 true v185 (fun k189 => k189 v88 v185) (fun v190 v191 => gd v188 true v191 (fun k192 => k192 v96 v191) (fun v193 v194 => gd v188 true v194 (fun k195 => (ae .eql 3).f v190 v193 (fun v196 => k195 v196 v194)) (fun v197 v198 => aI v188 (fun v199 => v199 v197) (fun v200 => v200 (.bool false)) (fun v201 => gd v201 true v198 (fun k202 => k202 v104 v198) (fun v203 v204 => gd v201 true v204 (fun k205 => k205 v110 v204) (fun v206 v207 => gd v201 true v207 (fun k208 => (cx .eql).f v203 v206 (fun v209 => k208 v209 v207)) (fun v210 v211 => aI v201 (fun v212 => v212 v210) (fun v213 => v213 (.bool false)) (fun v214 => gd v214 true v211 (fun k215 => k215 v105 v211) (fun v216 v217 => gd v214 true v217 (fun k218 => k218 v111 v217) (fun v219 v220 => gd v214 true v220 (fun k221 => (ae .eql 3).f v216 v219 (fun v222 => k221 v222 v220)) (fun v223 v224 => aI v214 (fun v225 => v225 v223) (fun v226 => v226 (.bool false)) (fun v227 => gd v227 true v224 (fun k228 => k228 v115 v224) (fun v229 v230 => gd v227 true v230 (fun k231 => k231 v124 v230) (fun v232 v233 => gd v227 true v233 (fun k234 => cO mem .nil .nil v233 (fun h235 => au mem false r15 (.nd v229 .lf (.nd v232 .lf .lf)) h235 (fun v236 v237 => .val v236 v237)) (fun v238 v239 => k234 v239 v238)) (fun v240 v241 => aI v227 (fun v242 => v242 v240) (fun v243 => v243 (.bool false)) (fun v244 => gd v244 true v241 (fun k245 => aq mem true 3 v118 v241 (fun v246 => k245 v246 v241)) (fun v247 v248 => gd v244 true v248 (fun k249 => aq mem true 3 v127 v248 (fun v250 => k249 v250 v248)) (fun v251 v252 => gd v244 true v252 (fun k253 => (wi (.cells (.cons 6 (.cons 5 (.cons 5 .nil)))) .eql).f v247 v251 (fun v254 => k253 v254 v252)) (fun v255 v256 => aI v244 (fun v257 => v257 v255) (fun v258 => v258 (.bool false)) (fun v259 => gd v259 true v256 (fun k260 => k260 v117 v256) (fun v261 v262 => gd v259 true v262 (fun k263 => k263 v126 v262) (fun v264 v265 => gd v259 true v265 (fun k266 => (ae .eql 3).f v261 v264 (fun v267 => k266 v267 v265)) (fun v268 v269 => aI v259 (fun v270 => v270 v268) (fun v271 => v271 (.bool false)) (fun v272 => .ret (.n x0 x1 x2 x3 x4 x5 v272 x7 (.n x8 x9 .uu .uu .uu .uu .uu .uu .e)) v269)))))))))))))))))))))))))))))))))))))))))))))))))))))))))))))))))))))))))))))))))))))))))) := by kernel_rfl
end
attribute [local irreducible] mem
set_option linter.unusedSimpArgs false
attribute [local congr] di aJ bM dh dm bj de cm aW cf cn c9 bh bK bH aX eJ cg cb cj bm bk aK aO eG bG cq bL bO bD bF ck c7 bl bJ dd bE bI bC cN fK
set_option maxHeartbeats 4000000
theorem lz (c : UInt8) : ∀ l p, p ∈ aR c l → p.length ≤ l.length
  | [], p, h => by
    have : p = [] := List.mem_singleton.1 h
    rw [this]; exact Nat.le_refl _
  | b :: l, p, h => by
    by_cases hb : b = c
    · subst hb
      rw [zD] at h
      rcases List.mem_cons.1 h with rfl | h
      · exact Nat.zero_le _
      · have := lz b l p h; simp only [List.length_cons]; omega
    · have hl := iT c l
      cases hq : aR c l with
      | nil => rw [hq] at hl; exact absurd hl (by decide)
      | cons a r =>
        rw [uM hb hq] at h
        rcases List.mem_cons.1 h with rfl | h
        · have := lz c l a (by rw [hq]; simp); simp only [List.length_cons]; omega
        · have := lz c l p (by rw [hq]; simp [h]); simp only [List.length_cons]; omega
theorem a2B {G : List UInt8 → Option Mk} : ∀ {L : List (List UInt8)} {r : List Mk}, kh G L = some r → r.length = L.length
  | [], r, h => by injection h with h; subst h; rfl
  | s :: L, r, h => by
    unfold kh at h
    cases hg : G s with
    | none => simp only [hg] at h; cases h
    | some x =>
      cases hq : kh G L with
      | none => simp only [hg, hq] at h; cases h
      | some r2 =>
        simp only [hg, hq] at h
        injection h with h
        subst h
        simp only [List.length_cons, a2B hq]
section
variable {m : cD} (h : bz m) (hn : m.n ≤ 40) (hnc : ∀ i, i < m.n → m.nc i ≤ 300) (hnm : ∀ i, i < m.n → (m.nm i).length ≤ 40)
include h hn hnc hnm
theorem aiG {s : List UInt8} (hs : s.length ≤ 100000) : ∃ (x : Mk) (e : Int), (0 ≤ e ∧ e ≤ 12) ∧ db (r7.f (.nd m.av .lf (.nd (S s) .lf .lf)) .empty) = some (.bB (.nd x.av .lf (.nd (I e) .lf .lf)) 2) ∧ db (r8.f (.nd m.av .lf (.nd (S s) .lf .lf)) .empty) = some (.bB (.nd x.av .lf (.nd (I e) .lf .lf)) 2) := by
  by_cases hl : s.length ≤ 2000
  · cases hg : gMk m s with
    | some x => exact ⟨x, 0, by omega, ((rd7 h hn hnc).yes hs hg).2, ((rd8 h hn hnc hnm).yes hs hg).2⟩
    | none =>
      refine ⟨tf, 12, by omega, ?_, ?_⟩
      · obtain ⟨v, e, hv⟩ := (a5n h hn hnc hl).1
        rcases hv with rfl | ⟨x, k1, k2, k3, _⟩
        · exact e
        · rcases rD hg with g | g
          · omega
          · exact absurd k3 (g x k1 k2)
      · rcases a5K h hn hnc hnm hl with ⟨y, k1, k2, k3, k4⟩ | ⟨k1, k2⟩
        · rcases rD hg with g | g
          · omega
          · exact absurd k3 (g y k1 k2)
        · exact k2
  · exact ⟨tf, 4, by omega, a7Z h (by omega) hs, a7k (by omega) hs⟩
def RdV (F : bN) (m : cD) (s : List UInt8) (l : List Mk) (x : En) (e : Int) : Prop := ∃ a hc, kj 7 hc a (l.map Mk.av) ∧ hc.nx ≤ 1000000 ∧ F.f (.nd m.av .lf (.nd (S s) .lf .lf)) .empty = .val (.bB (.nd a .lf (aw [x.av, I e])) 3) hc
theorem acD {s : List UInt8} (hs : s.length ≤ 4000 ∨ 300000 < s.length ∧ s.length ≤ 1000000) : ∃ (l : List Mk) (x : En) (e : Int), (0 ≤ e ∧ e ≤ 12) ∧ l.length ≤ 100000 ∧ RdV r11 m s l x e ∧ RdV r12 m s l x e := by
  rcases hs with hs | ⟨hs, hs2⟩
  · have hne : aR 10 s ≠ [] := by
      have := iT 10 s
      intro e; rw [e] at this; exact absurd this (by decide)
    have hp : (aR 10 s).dropLast ++ [(aR 10 s).getLast hne] = aR 10 s := List.dropLast_concat_getLast hne
    have hle : ∀ l ∈ (aR 10 s).dropLast, l.length ≤ 4000 := fun l hl => by
      have := lz 10 s l (List.dropLast_subset _ hl); omega
    have r1 := ahZ (rd7 h hn hnc) ed38 h hs hp hle
    have r2 := air (rd8 h hn hnc hnm) ed40 h hs hp hle
    have hsl := mB 10 s
    cases ho : rdL (gMk m) gEn (aR 10 s).dropLast ((aR 10 s).getLast hne) with
    | none =>
      rw [ho] at r1 r2
      obtain ⟨a, hc, ⟨k1, k2⟩, k3⟩ := r1
      obtain ⟨a', hc', ⟨k4, k5⟩, k6⟩ := r2
      exact ⟨[], ⟨0, 0, 0⟩, 12, by omega, by decide, ⟨a, hc, k1, k3, k2⟩, ⟨a', hc', k4, k6, k5⟩⟩
    | some o =>
      obtain ⟨l, x⟩ := o
      rw [ho] at r1 r2
      obtain ⟨a, hc, ⟨k1, k2⟩, k3⟩ := r1
      obtain ⟨a', hc', ⟨k4, k5⟩, k6⟩ := r2
      refine ⟨l, x, 0, by omega, ?_, ⟨a, hc, k1, k3, k2⟩, ⟨a', hc', k4, k6, k5⟩⟩
      unfold rdL at ho
      split at ho
      · rename_i hcnd
        cases hE : gEn ((aR 10 s).dropLast.getD ((aR 10 s).dropLast.length - 1) []) with
        | none => rw [hE] at ho; cases ho
        | some x2 =>
          rw [hE] at ho
          cases hq : kh (gMk m) (aR 10 s).dropLast.dropLast with
          | none => simp only [hq] at ho; cases ho
          | some r =>
            simp only [hq] at ho
            injection ho with ho
            injection ho with ho _
            subst ho
            rw [a2B hq, List.length_dropLast]; omega
      · cases ho
  · obtain ⟨h1, k1, k2⟩ := aaZ (m := m) hs hs2
    obtain ⟨h2, k3, k4⟩ := aaG (m := m) hs hs2
    exact ⟨[], ⟨0, 0, 0⟩, 4, by omega, by decide, ⟨_, h1, .inl ⟨rfl, rfl⟩, k1, k2⟩, ⟨_, h2, .inl ⟨rfl, rfl⟩, k3, k4⟩⟩
end
end Go.Proofs.YtbamejikafhenaaDoor.Tz
