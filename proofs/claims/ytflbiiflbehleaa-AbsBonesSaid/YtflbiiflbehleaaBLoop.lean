import Derived.Test.YtflbiiflbehleaaAt
import Derived.Deep.AppendLies
namespace Go.Proofs.Ytflbiiflbehleaa
open Go.RowKit
theorem grown_refl (w : World) (r : Option Nat) : w.grownBy w r := ⟨rfl, rfl, rfl, Nat.le_refl _, fun _ _ _ => rfl⟩
theorem grown_drew (w : World) (r : Option Nat) : w.grownBy w.drew r := ⟨rfl, rfl, rfl, Nat.le_refl _, fun _ _ _ => rfl⟩
theorem grown_of_grow {w w' : World} (g : Grow w w') (r : Option Nat) : w.grownBy w' r := ⟨g.os, g.tape, g.output, g.size, fun k hk _ => g.block k hk⟩
theorem grown_set (w : World) (o j : Nat) (v : Value) : w.grownBy (w.setCell ⟨o, j, none⟩ v) (some o) :=
  ⟨rfl, rfl, rfl, by simp [World.setCell], fun k _ hk => Below.heap_setCell _ _ _ _ (by rintro rfl; exact hk rfl)⟩
theorem grown_more {w0 w w' : World} {r r' : Option Nat} (h : w0.grownBy w r) (h' : w.grownBy w' r') (hr : ∀ k, r' = some k → r = some k ∨ w0.heap.size ≤ k) : w0.grownBy w' r := by
  refine ⟨h'.os.trans h.os, h'.tape.trans h.tape, h'.output.trans h.output, Nat.le_trans h.size h'.size, fun k hk hne => ?_⟩
  rw [h'.block k (Nat.lt_of_lt_of_le hk h.size) ?_]
  · exact h.block k hk hne
  · intro e
    rcases hr k e.symm with h1 | h1
    · exact hne h1.symm
    · omega
theorem grow_of_grown {w w1 w' : World} {o : Nat} (g : Grow w w1) (h : w1.grownBy w' (some o)) (ho : w.heap.size ≤ o) : Grow w w' :=
  ⟨h.os.trans g.os, h.tape.trans g.tape, h.output.trans g.output, Nat.le_trans g.size h.size, fun k hk => (h.block k (Nat.lt_of_lt_of_le hk g.size) (by intro e; cases e; omega)).trans (g.block k hk)⟩
theorem At.grown {w w' : World} {b : Nat} {t : TypeId} {cs : Array Value} {r : Option Nat} (h : At w b t cs) (g : w.grownBy w' r) (hr : some b ≠ r) : At w' b t cs := h.keep (g.block b h.lt hr)
theorem SRow.own {α : Type} {cells : α → List Value} {t : TypeId} {size : Nat} {w : World} {base : Nat} {v : Value} {l : List α} (h : SRow cells t size w base v l) : ∀ k, v.ownBlock = some k → base ≤ k ∧ k < w.heap.size := by
  intro k hk
  obtain ⟨_, ⟨rfl, _⟩ | ⟨g, cap, cur, rfl, hb, hgg, _⟩⟩ := h
  · cases hk
  · simp [Value.ownBlock] at hk
    subst hk
    exact ⟨hb, (Array.getElem?_eq_some_iff.1 hgg).1⟩
theorem SRow.grown {α : Type} {cells : α → List Value} {t : TypeId} {size : Nat} {w w' : World} {base : Nat} {v : Value} {l : List α} {r : Option Nat} (h : SRow cells t size w base v l) (g : w.grownBy w' r) (hr : ∀ k, r = some k → v.ownBlock ≠ some k) : SRow cells t size w' base v l :=
  World.ownsRow.kept h g (by
    cases r with
    | none => cases hv : v.ownBlock <;> simp
    | some k => exact .inr (hr k rfl))
theorem LiesUp.grown {α : Type} {lo : Nat} {w w' : World} {p : Option Addr} {cap size : Nat} {cells : α → List Value} {l : List α} {r : Option Nat} (h : LiesUp lo w p cap size cells l) (g : w.grownBy w' r) (hr : ∀ a, p = some a → some a.block ≠ r) : LiesUp lo w' p cap size cells l :=
  h.keep g.size fun a ha => g.block _ (h.2 a ha).2 (hr a ha)
/-- A loop that appends to a slice in a field of a block of the call's own: block o, field j; all other memory of the loop's start is as it was. -/
structure BLoop {α : Type} (cells : α → List Value) (t : TypeId) (size : Nat) (w1 : World) (o : Nat) (ty : TypeId) (cs : Array Value) (j : Nat) (l : List α) (v : Value) (wq : World) : Prop where
  g : w1.grownBy wq (some o)
  at' : At wq o ty (cs.setIfInBounds j v)
  row : SRow cells t size wq w1.heap.size v l
  lt : o < w1.heap.size
  jlt : j < cs.size
theorem BLoop.start {α : Type} {cells : α → List Value} {t : TypeId} {size : Nat} {w1 : World} {o : Nat} {ty : TypeId} {cs : Array Value} {j : Nat} (h : At w1 o ty cs) (hj : cs[j]? = some (.slice none 0 0)) : BLoop cells t size w1 o ty cs j ([] : List α) (.slice none 0 0) w1 := by
  have hlt := (Array.getElem?_eq_some_iff.1 hj).1
  refine ⟨grown_refl _ _, ?_, World.ownsRow_nil _ _ _ _, h.lt, hlt⟩
  rw [show cs.setIfInBounds j (.slice none 0 0) = cs from ?_]
  · exact h
  · have := (Array.getElem?_eq_some_iff.1 hj).2
    simp [Array.setIfInBounds, hlt, ← this]
section
variable {α : Type} {cells : α → List Value} {t : TypeId} {size : Nat} {w1 : World} {o : Nat} {ty : TypeId} {cs : Array Value} {j : Nat} {l : List α} {v : Value} {wq : World}
theorem BLoop.cell (h : BLoop cells t size w1 o ty cs j l v wq) : wq.cell? ⟨o, j, none⟩ = some v := by
  rw [h.at'.cell j]; simp [h.jlt]
theorem BLoop.old {b : Nat} {tb : TypeId} {cb : Array Value} (h : BLoop cells t size w1 o ty cs j l v wq) (hb : At w1 b tb cb) (hne : b ≠ o) : At wq b tb cb := hb.grown h.g (by simpa using hne)
/-- The block that holds the field, behind the append: what the store asks for. -/
theorem BLoop.mid {w2 : World} {ob : Obj} (h : BLoop cells t size w1 o ty cs j l v wq) (hg : (wq.drew.alloc ob).grownBy w2 v.ownBlock) : At w2 o ty (cs.setIfInBounds j v) := by
  have h1 : At (wq.drew.alloc ob) o ty (cs.setIfInBounds j v) := h.at'.drew.grow ((Below.refl _ _).alloc' _)
  refine h1.grown hg ?_
  intro e
  have := (h.row.own o e.symm).1
  have := h.lt
  omega
theorem BLoop.step {w2 : World} {ob : Obj} {x : α} {v' : Value} (h : BLoop cells t size w1 o ty cs j l v wq) (hg : (wq.drew.alloc ob).grownBy w2 v.ownBlock) (hr : SRow cells t size w2 w1.heap.size v' (l ++ [x])) :
    BLoop cells t size w1 o ty cs j (l ++ [x]) v' (w2.setCell ⟨o, j, none⟩ v') := by
  have hm := h.mid hg
  refine ⟨?_, ?_, ?_, h.lt, h.jlt⟩
  · refine grown_more (grown_more (grown_more (grown_more h.g (grown_drew _ none) (by simp)) (World.grownBy_alloc _ ob none) (by simp)) hg ?_) (grown_set _ _ _ _) (by simp)
    intro k hk
    exact .inr (h.row.own k hk).1
  · have := hm.set j v'
    rwa [Array.setIfInBounds_setIfInBounds] at this
  · refine hr.grown (grown_set _ _ _ _) ?_
    rintro k hk e
    cases hk
    have := (hr.own o e).1
    have := h.lt
    omega
/-- The same where the region drew no order. -/
theorem BLoop.mid' {w2 : World} {ob : Obj} (h : BLoop cells t size w1 o ty cs j l v wq) (hg : (wq.alloc ob).grownBy w2 v.ownBlock) : At w2 o ty (cs.setIfInBounds j v) := by
  have h1 : At (wq.alloc ob) o ty (cs.setIfInBounds j v) := h.at'.grow ((Below.refl _ _).alloc' _)
  refine h1.grown hg ?_
  intro e
  have := (h.row.own o e.symm).1
  have := h.lt
  omega
theorem BLoop.step' {w2 : World} {ob : Obj} {x : α} {v' : Value} (h : BLoop cells t size w1 o ty cs j l v wq) (hg : (wq.alloc ob).grownBy w2 v.ownBlock) (hr : SRow cells t size w2 w1.heap.size v' (l ++ [x])) :
    BLoop cells t size w1 o ty cs j (l ++ [x]) v' (w2.setCell ⟨o, j, none⟩ v') := by
  have hm := h.mid' hg
  refine ⟨?_, ?_, ?_, h.lt, h.jlt⟩
  · refine grown_more (grown_more (grown_more h.g (World.grownBy_alloc _ ob none) (by simp)) hg ?_) (grown_set _ _ _ _) (by simp)
    intro k hk
    exact .inr (h.row.own k hk).1
  · have := hm.set j v'
    rwa [Array.setIfInBounds_setIfInBounds] at this
  · refine hr.grown (grown_set _ _ _ _) ?_
    rintro k hk e
    cases hk
    have := (hr.own o e).1
    have := h.lt
    omega
/-- Memory that was made, or written, from the start on, beside block o and the row. -/
theorem BLoop.more {w2 : World} {r : Option Nat} (h : BLoop cells t size w1 o ty cs j l v wq) (hg : wq.grownBy w2 r) (hr : ∀ k, r = some k → wq.heap.size ≤ k) : BLoop cells t size w1 o ty cs j l v w2 := by
  refine ⟨grown_more h.g hg fun k hk => .inr (Nat.le_trans h.g.size (hr k hk)), h.at'.grown hg ?_, h.row.grown hg ?_, h.lt, h.jlt⟩
  · intro e
    have := hr _ e.symm
    have := h.at'.lt
    omega
  · intro k hk e
    have := hr _ hk
    have := (h.row.own _ e).2
    omega
end
/-- An append of one struct, which lies in a block of its own. -/
theorem append_one {α : Type} {cells : α → List Value} {t ts : TypeId} {size : Nat} (hu : Try.prog.underlying ts = some (.slice t)) (hinfo : (Try.prog.info? t).map (fun i => (i.zero.map (fun z => z.cells.size), i.size, decide (i.bytes ≤ 1000))) = some (some size, size, true)) (hc : ∀ x, (cells x).length = size) (hsz : 0 < size) (hone : ∀ (l : List α) u, u ∈ l.flatMap cells → u.oneCell' = true)
    {ops : Array Oper} {rest : List Oper} {o : Oper} {a : Act} {Q : Exit → Act → World → Prop} (w : World) (hg : o.guard = none) (s x : Operand)
    (ho : o.op = Op.call { callee := Callee.builtin Builtin.append, args := #[s, x], argTypes := #[ts, ts] }) (base : Nat) (v : Value) (xs : List α) (hv : a.eval s = v)
    (b cap : Nat) (y : α) (hx : a.eval x = .slice (some ⟨b, 0, none⟩) 1 cap) (hown : SRow cells t size w base v xs) (tb : TypeId) (cs : Array Value) (hcs : cs.toList = cells y) (hb : At w b tb cs) (hlen : xs.length ≤ 100000000) (hbase : base ≤ w.heap.size)
    (K : ∀ (g q c' : Nat) (w' : World), SRow cells t size w' base (.slice (some ⟨g, 0, none⟩) q c') (xs ++ [y]) → w.grownBy w' v.ownBlock → (v.ownBlock = some g ∨ g = w.heap.size) → wpList Try.prog ops Q rest (a.put o.dst (.slice (some ⟨g, 0, none⟩) q c')) w') : wpList Try.prog ops Q (o :: rest) a w := by
  obtain ⟨i0, z, hi, hz0, hz1, hz2, hz3⟩ := srow_info hinfo
  have hy : ([y].flatMap cells) = cells y := by simp
  refine wpList_append_lies w hg s x _ ho base t i0 z size i0.bytes hu hi hz0 hz1 rfl hz2 hsz v xs.length (xs.flatMap cells) hv hown ⟨b, 0, none⟩ 1 cap (cells y) hx (by rw [hc]; omega) (fun j u hj => ?_) (fun u hu => hone [y] u (by rw [hy]; exact hu)) (by omega) (by unfold maxLen; omega) (Nat.le_trans (Nat.mul_le_mul (by omega : xs.length + 1 ≤ 100000001) hz3) (by decide)) hbase _ rfl ?_
  · rw [← hcs] at hj
    exact World.news_of_block hb j u hj
  · intro g cap' w' h1 h2 h3 _
    refine K g _ cap' w' ?_ h2 h3
    unfold SRow
    rw [List.flatMap_append, List.length_append, hy]
    exact h1
end Go.Proofs.Ytflbiiflbehleaa
