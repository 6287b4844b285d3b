/- A region that draws its order: its first n operations yield in every world that meets S, or come in a forced order and keep S; the last ones come behind all of them (a store to a cell that the region has read). -/
import Derived.Test.YtflbiiflbehleaaTail
import Derived.Deep.RegionHeld3
namespace Go.Proofs.Ytflbiiflbehleaa
open Go.RowKit
section
variable {P : Program} {ops : Array Oper} {md : Region.Mode} {S : World → Prop} {Q : Exit → Act → World → Prop}
/-- So many operations of the head, in whatever order, S behind each; then the tail. -/
def HeadH (P : Program) (md : Region.Mode) (ops : Array Oper) (Q : Exit → Act → World → Prop) (S : World → Prop) (n : Nat) : Nat → Array Bool → Act → World → Prop
  | 0, seen, a, w => (∀ j, j ∈ Region.ready md ops seen → n ≤ j) ∧ wpAny P md ops Q (ops.size - n) seen a w
  | f + 1, seen, a, w => Region.ready md ops seen ≠ [] ∧ ∀ i, i ∈ Region.ready md ops seen → i < n ∧ wpOp P ops Q i (fun a' w' => S w' ∧ HeadH P md ops Q S n f (seen.setIfInBounds i true) a' w') a w
theorem HeadH.wpAny {n : Nat} (f : Nat) : ∀ (seen : Array Bool) (a : Act) (w : World), HeadH P md ops Q S n f seen a w → wpAny P md ops Q (f + (ops.size - n)) seen a w := by
  induction f with
  | zero => intro seen a w h; rw [Nat.zero_add]; exact h.2
  | succ f ih =>
    intro seen a w h
    rw [Nat.succ_add]
    exact ⟨fun h0 => absurd h0 h.1, fun i hi => wpOp_mono (fun a' w' h' => ih _ a' w' h'.2) (h.2 i hi).2⟩
theorem HeadH.first {n i : Nat} {oi : Oper} {v : Value} (hi : ops[i]? = some oi) (hsel : ∀ (j : Nat) (o : Oper) cs b, ops[j]? = some o → o.op ≠ .select cs b)
    (hQ : ∀ c a w, Q (.panic c) (a.put oi.dst v) w → Q (.panic c) a w)
    (hs : Region.sinkB md ops n = true) (hc : Region.chainB md ops n = true) (hn : n < ops.size) (hin : i < n) (f : Nat) :
    ∀ (seen : Array Bool) (a : Act) (w : World), HeadInv md ops n seen →
      (∀ j oj, ops[j]? = some oj → j ≠ i → seen.getD j true = false → (∀ e ∈ oj.after, Region.binds md e = true → e.on ≠ i) → oi.apart ops oj = true) →
      i ∈ Region.ready md ops seen → YieldsIf P ops S oi v a → S w →
      HeadH P md ops Q S n f (seen.setIfInBounds i true) (a.put oi.dst v) w → HeadH P md ops Q S n (f + 1) seen a w := by
  induction f with
  | zero =>
    intro seen a w inv _ hr hy hS H
    have hun := (mem_ready.1 hr).1
    refine ⟨List.ne_nil_of_mem hr, fun j hj => ?_⟩
    have hjn : j < n := Nat.lt_of_not_le fun h => tail_waits hs hc hn inv _ i rfl hin hun j h hj
    refine ⟨hjn, ?_⟩
    by_cases hji : j = i
    · subst hji; exact hy.wpOp hi hS ⟨hS, H⟩
    · exact absurd (H.1 j (ready_mono hj hji)) (Nat.not_le_of_lt hjn)
  | succ f ih =>
    intro seen a w inv hfree hr hy hS H
    have hun := (mem_ready.1 hr).1
    refine ⟨List.ne_nil_of_mem hr, fun j hj => ?_⟩
    have hjn : j < n := Nat.lt_of_not_le fun h => tail_waits hs hc hn inv _ i rfl hin hun j h hj
    refine ⟨hjn, ?_⟩
    by_cases hji : j = i
    · subst hji; exact hy.wpOp hi hS ⟨hS, H⟩
    · have h1 := (H.2 j (ready_mono hj hji)).2
      obtain ⟨hjun, oj, hoj, hall⟩ := mem_ready.1 hj
      have hnot : ∀ e ∈ oj.after, Region.binds md e = true → e.on ≠ i := by
        intro e he hb heq
        have h2 := hall e he hb
        rw [heq, getD_both hun] at h2
        cases h2
      have h2 := wpOp_putIf hoj (hfree j oj hoj hji hjun hnot) (fun cs b => hsel i oi cs b hi) (fun cs b => hsel j oj cs b hoj) hQ hy h1
      refine wpOp_mono (fun a' w' h3 => ⟨h3.2.1, ih (seen.setIfInBounds j true) a' w' (inv.set hj hjn) ?_ (ready_mono hr (Ne.symm hji)) h3.1 h3.2.1 ?_⟩) h2
      · intro k ok hk hki hun' hno
        refine hfree k ok hk hki ?_ hno
        by_cases hjk : j = k
        · subst hjk; exact hjun
        · rw [getD_set_ne true hjk] at hun'; exact hun'
      · rw [Array.setIfInBounds_comm _ _ hji]
        exact h3.2.2
/-- What the walk stands at: the invariant is carried by itself. -/
def HeadI (P : Program) (md : Region.Mode) (ops : Array Oper) (Q : Exit → Act → World → Prop) (S : World → Prop) (n f : Nat) (seen : Array Bool) (a : Act) (w : World) : Prop :=
  HeadInv md ops n seen → HeadH P md ops Q S n f seen a w
/-- Take one that yields. -/
theorem HeadI.take {n i f : Nat} {oi : Oper} {v : Value} {seen : Array Bool} {a : Act} {w : World} (hi : ops[i]? = some oi) (hB : (Region.noSelect ops && Region.sinkB md ops n && Region.chainB md ops n && decide (n < ops.size) && decide (i < n) && Region.free md ops seen i && (Region.ready md ops seen).contains i) = true)
    (hQ : ∀ c a w, Q (.panic c) (a.put oi.dst v) w → Q (.panic c) a w) (hy : YieldsIf P ops S oi v a) (hS : S w)
    (h : HeadI P md ops Q S n f (seen.setIfInBounds i true) (a.put oi.dst v) w) : HeadI P md ops Q S n (f + 1) seen a w := by
  simp only [Bool.and_eq_true, decide_eq_true_eq] at hB
  obtain ⟨⟨⟨⟨⟨⟨h1, h2⟩, h3⟩, h4⟩, h5⟩, h6⟩, h7⟩ := hB
  have hr : i ∈ Region.ready md ops seen := by simpa using h7
  intro inv
  exact HeadH.first hi (Region.noSelect_spec h1) hQ h2 h3 h4 h5 f seen a w inv (Region.free_spec hi h6) hr hy hS (h (inv.set hr h5))
/-- The one that must come next. -/
theorem HeadI.only {n i f : Nat} {o : Oper} {seen : Array Bool} {a : Act} {w : World} (ho : ops[i]? = some o) (hg : o.guard = none) (hr : Region.ready md ops seen = [i]) (hin : i < n)
    (h : o.wp P a w (fun a' w' => S w' ∧ HeadI P md ops Q S n f (seen.setIfInBounds i true) a' w') Q) : HeadI P md ops Q S n (f + 1) seen a w := by
  intro inv
  have hm : i ∈ Region.ready md ops seen := by rw [hr]; simp
  refine ⟨List.ne_nil_of_mem hm, fun j hj => ?_⟩
  rw [hr] at hj
  obtain rfl : j = i := by simpa using hj
  refine ⟨hin, ?_⟩
  unfold wpOp
  simp only [ho]
  rw [if_pos (by simp [Region.wanted, hg])]
  exact .inl (Oper.wp_mono (fun a' w' h' => ⟨h'.1, h'.2 (inv.set hm hin)⟩) h)
/-- The last one. -/
theorem HeadI.last {n : Nat} {o : Oper} {seen : Array Bool} {a : Act} {w : World} (ho : ops[n]? = some o) (hg : o.guard = none) (hz : ops.size - n = 1) (hr : Region.ready md ops seen = [n]) (hr' : Region.ready md ops (seen.setIfInBounds n true) = [])
    (h : o.wp P a w (fun a' w' => Q .normal a' w') Q) : HeadI P md ops Q S n 0 seen a w := by
  intro _
  refine ⟨fun j hj => by rw [hr] at hj; simp at hj; omega, ?_⟩
  rw [hz]
  refine ⟨fun h0 => absurd (hr.symm.trans h0) (by simp), fun j hj => ?_⟩
  rw [hr] at hj
  obtain rfl : j = n := by simpa using hj
  unfold wpOp
  simp only [ho]
  rw [if_pos (by simp [Region.wanted, hg])]
  exact .inl (Oper.wp_mono (fun a' w' h' => ⟨hr', h'⟩) h)
/-- The rest, in one forced order: a plain list. -/
theorem HeadI.seq {n : Nat} {l : List Oper} {seen : Array Bool} {a : Act} {w : World} (hB : Region.seqB md l.toArray (l.toArray.size - n) n seen = true)
    (h : wpList P l.toArray Q (l.drop n) a w) : HeadI P md l.toArray Q S n 0 seen a w := by
  intro _
  have hdl : (l.drop n).length = l.toArray.size - n := by simp
  refine ⟨fun j hj => seqB_ready hB j hj, ?_⟩
  have := wpAny_of_seq (P := P) (md := md) (Q' := Q) (l.drop n) n seen a w (fun j => by simp [List.getElem?_drop]) (by rw [hdl]; exact hB) h
  rwa [hdl] at this
/-- The beginning. -/
theorem wp_region_head {id n : Nat} {a : Act} {w : World} (S : World → Prop) (hm : P.follows .mixedOrders = true) (hn : n ≤ ops.size)
    (h : HeadI P .any ops Q S n n (Array.replicate ops.size false) a w.drew) : (Code.region id ops true).wp P Q a w := by
  refine wp_region_any hm ?_
  have inv0 : HeadInv .any ops n (Array.replicate ops.size false) :=
    ⟨by simp, fun j oj _ hl => (by rw [getD_replicate_false] at hl; cases hl), fun t _ ht => getD_in (by simpa using ht) (getD_replicate_false _ _)⟩
  have := (h inv0).wpAny
  rwa [show n + (ops.size - n) = ops.size by omega] at this
end
end Go.Proofs.Ytflbiiflbehleaa
