import Derived.Test.YtflbiiflbehleaaGreatSmall
import Derived.Test.YtflbiiflbehleaaInts
import Derived.Test.YtflbiiflbehleaaHeadH
namespace Go.Proofs.Ytflbiiflbehleaa
open Go.RowKit
theorem srow_info {P : Program} {t : TypeId} {n : Nat} (h : (P.info? t).map (fun i => (i.zero.map (fun z => z.cells.size), i.size, decide (i.bytes ≤ 1000))) = some (some n, n, true)) :
    ∃ i z, P.info? t = some i ∧ i.zero = some z ∧ i.size = n ∧ z.cells.size = n ∧ i.bytes ≤ 1000 := by
  cases hi : P.info? t with
  | none => rw [hi] at h; cases h
  | some i =>
    rw [hi] at h
    simp only [Option.map_some, Option.some.injEq, Prod.mk.injEq, decide_eq_true_eq] at h
    obtain ⟨h1, h2, h3⟩ := h
    cases hz : i.zero with
    | none => rw [hz] at h1; cases h1
    | some z =>
      rw [hz] at h1
      exact ⟨i, z, rfl, hz, h2, by simpa using h1, h3⟩
theorem flat_length {α : Type} {cells : α → List Value} {size : Nat} (hc : ∀ x, (cells x).length = size) (l : List α) : (l.flatMap cells).length = l.length * size := by
  induction l with
  | nil => simp
  | cons x l ih => rw [List.flatMap_cons, List.length_append, ih, hc, List.length_cons, Nat.succ_mul]; omega
theorem flat_get {α : Type} {cells : α → List Value} {size : Nat} (hc : ∀ x, (cells x).length = size) (l : List α) : ∀ (j : Nat) (u : Value), (l.flatMap cells)[j]? = some u → ∃ i r x, j = i * size + r ∧ l[i]? = some x ∧ (cells x)[r]? = some u := by
  induction l with
  | nil => intro j u h; simp at h
  | cons x l ih =>
    intro j u h
    rw [List.flatMap_cons, List.getElem?_append] at h
    split at h
    · exact ⟨0, j, x, by omega, rfl, h⟩
    · rename_i hj
      obtain ⟨i, r, y, h1, h2, h3⟩ := ih _ _ h
      rw [hc] at h1 hj
      exact ⟨i + 1, r, y, by rw [Nat.succ_mul]; omega, by simpa using h2, h3⟩
/-- The cells of a slice lie in a row. -/
theorem Lies.flat {α : Type} {w : World} {b off cap size : Nat} {cells : α → List Value} {l : List α} (h : Lies w (some ⟨b, off, none⟩) cap size cells l) (hc : ∀ x, (cells x).length = size) (j : Nat) (u : Value) (hj : (l.flatMap cells)[j]? = some u) : w.cell? ((⟨b, off, none⟩ : Addr).add j) = some u := by
  obtain ⟨i, r, x, rfl, h2, h3⟩ := flat_get hc l j u hj
  obtain ⟨b', off', hp, _, he⟩ := h.elem h2
  cases hp
  have e : (⟨b, off, none⟩ : Addr).add (i * size + r) = ⟨b, off + i * size + r, none⟩ := by unfold Addr.add; split <;> simp_all [Nat.add_assoc]
  rw [e]
  exact he r u h3
/-- A row of structs of the call's own. -/
abbrev SRow {α : Type} (cells : α → List Value) (t : TypeId) (size : Nat) (w : World) (base : Nat) (v : Value) (l : List α) : Prop := w.ownsRow base t size v l.length (l.flatMap cells)
def GivesS {α : Type} (cells : α → List Value) (t : TypeId) (size : Nat) (l : List α) (w : World) (e : Ending) (w' : World) : Prop := ∃ v, e = .returned v ∧ SRow cells t size w' w.heap.size v l ∧ Grow w w'
theorem empty_srow {α : Type} (cells : α → List Value) (t : TypeId) (size : Nat) (w : World) : SRow cells t size (w.alloc (.cells #[] t)) w.heap.size (.slice (some ⟨w.heap.size, 0, none⟩) 0 0) [] :=
  World.ownsRow_lit (base := w.heap.size) (e := t) (size := size) w #[] 0 (Nat.le_refl _) (by unfold maxLen; omega) (by simp)
/-- An append to a row of structs of the call's own. -/
theorem append_srow {α : Type} {cells : α → List Value} {t ts : TypeId} {size : Nat} (hu : Try.prog.underlying ts = some (.slice t)) (hinfo : (Try.prog.info? t).map (fun i => (i.zero.map (fun z => z.cells.size), i.size, decide (i.bytes ≤ 1000))) = some (some size, size, true)) (hc : ∀ x, (cells x).length = size) (hsz : 0 < size) (hone : ∀ (l : List α) u, u ∈ l.flatMap cells → u.oneCell' = true)
    {ops : Array Oper} {rest : List Oper} {o : Oper} {a : Act} {Q : Exit → Act → World → Prop} (w : World) (hg : o.guard = none) (s x : Operand)
    (ho : o.op = Op.call { callee := Callee.builtin Builtin.append, args := #[s, x], argTypes := #[ts, ts] }) (base : Nat) (v : Value) (xs : List α) (hv : a.eval s = v)
    (ad : Addr) (cap : Nat) (l : List α) (n : Nat) (hn : n = l.length) (hx : a.eval x = .slice (some ad) n cap) (hown : SRow cells t size w base v xs) (hb : ∀ j u, (l.flatMap cells)[j]? = some u → w.cell? (ad.add j) = some u) (hlen : xs.length + l.length ≤ 1000000000) (hbase : base ≤ w.heap.size)
    (K : ∀ (v' : Value) (w' : World), SRow cells t size w' base v' (xs ++ l) → w.grownBy w' v.ownBlock → wpList Try.prog ops Q rest (a.put o.dst v') w') : wpList Try.prog ops Q (o :: rest) a w := by
  subst hn
  obtain ⟨i0, z, hi, hz0, hz1, hz2, hz3⟩ := srow_info hinfo
  refine wpList_append_own w hg s x _ ho base t i0 z size i0.bytes hu hi hz0 hz1 rfl hz2 hsz v xs.length (xs.flatMap cells) hv hown ad l.length cap (l.flatMap cells) hx (flat_length hc l) hb (hone l) (by unfold maxLen; omega) (Nat.le_trans (Nat.mul_le_mul (by omega : xs.length + l.length ≤ 1000000000) hz3) (by decide)) hbase ?_
  intro v' w' h1 h2 _
  refine K v' w' ?_ h2
  unfold SRow
  rw [List.flatMap_append, List.length_append]
  exact h1
theorem Try.uFr : Try.prog.underlying 64 = some (.slice 74) := by kernel_rfl
theorem Try.iFr : (Try.prog.info? 74).map (fun i => (i.zero.map (fun z => z.cells.size), i.size, decide (i.bytes ≤ 1000))) = some (some 4, 4, true) := by kernel_rfl
theorem Fr.cells_length (x : Fr) : x.cells.length = 4 := rfl
theorem Fr.flat_one (l : List Fr) : ∀ u, u ∈ l.flatMap Fr.cells → u.oneCell' = true := by
  intro u hu
  obtain ⟨x, _, hx⟩ := List.mem_flatMap.1 hu
  simp [Fr.cells] at hx
  rcases hx with rfl | rfl | rfl | rfl <;> rfl
set_option maxRecDepth 100000 in
set_option maxHeartbeats 1000000 in
theorem cloneFr (p : Option Addr) (cap : Nat) (l : List Fr) (w : World) (h : Lies w p cap 4 Fr.cells l) (hl : l.length ≤ 1000) :
    Calls Try.prog 52 #[.slice p l.length cap] w (GivesS Fr.cells 74 4 l w) := by
  have HL := Lib.hid h
  clear h
  cases p with
  | none =>
    obtain rfl : l = [] := by
      rcases HL.out.2 with h | ⟨b, off, hp, _⟩
      · exact h
      · cases hp
    have he : ∀ w : World, (binOp .eql 64 (.slice none 0 cap) (.slice none 0 0)).run Try.prog w = .ok (.bool true) w := fun _ => rfl
    simp only [List.length_nil]
    go_enter Try.func52, Try.ntmps52
    go_wp2_with fail
    go_ret
    exact ⟨_, rfl, World.ownsRow_nil _ _ _ _, Below.refl _ _⟩
  | some a =>
    have he : ∀ w : World, (binOp .eql 64 (.slice (some a) l.length cap) (.slice none 0 0)).run Try.prog w = .ok (.bool false) w := fun _ => rfl
    have HC := Lib.hid (show ∀ j u, (l.flatMap Fr.cells)[j]? = some u → (w.alloc (.cells #[] 74)).cell? (a.add j) = some u from fun j u hj => by
      rcases HL.out.2 with h | ⟨b, off, hp, _⟩
      · subst h; simp at hj
      · cases hp
        exact ((Below.refl _ _).alloc' _).keep (HL.out.flat Fr.cells_length j u hj))
    go_enter Try.func52, Try.ntmps52
    go_wp2_with (at_builtin; refine append_srow Try.uFr Try.iFr Fr.cells_length (by decide) Fr.flat_one _ rfl _ _ rfl w.heap.size _ [] rfl a cap l _ rfl rfl (empty_srow _ _ _ _) HC.out ?c1 ?c2 ?_)
    case c1 => simp; omega
    case c2 => exact ((Below.refl _ _).alloc' _).size
    intro v2 w2 hown hgrow
    have GG := Lib.hid (((Below.refl w.heap.size w).alloc' (.cells #[] 74)).grown hgrow ((Below.refl _ _).alloc' _).size (fun k hk => ((empty_srow Fr.cells 74 4 w).lt k hk).1))
    have HO := Lib.hid hown
    clear hown hgrow
    go_wp2_with fail
    go_ret
    exact ⟨_, rfl, HO.out, GG.out⟩
theorem Try.uDf : Try.prog.underlying 65 = some (.slice 81) := by kernel_rfl
theorem Try.iDf : (Try.prog.info? 81).map (fun i => (i.zero.map (fun z => z.cells.size), i.size, decide (i.bytes ≤ 1000))) = some (some 8, 8, true) := by kernel_rfl
theorem Df.cells_length (x : Df) : x.cells.length = 8 := rfl
theorem Df.flat_one (l : List Df) : ∀ u, u ∈ l.flatMap Df.cells → u.oneCell' = true := by
  intro u hu
  obtain ⟨x, _, hx⟩ := List.mem_flatMap.1 hu
  simp [Df.cells] at hx
  rcases hx with rfl | rfl | rfl | rfl | rfl | rfl | rfl | rfl <;> rfl
set_option maxRecDepth 100000 in
set_option maxHeartbeats 1000000 in
theorem cloneDf (p : Option Addr) (cap : Nat) (l : List Df) (w : World) (h : Lies w p cap 8 Df.cells l) (hl : l.length ≤ 1000) :
    Calls Try.prog 53 #[.slice p l.length cap] w (GivesS Df.cells 81 8 l w) := by
  have HL := Lib.hid h
  clear h
  cases p with
  | none =>
    obtain rfl : l = [] := by
      rcases HL.out.2 with h | ⟨b, off, hp, _⟩
      · exact h
      · cases hp
    have he : ∀ w : World, (binOp .eql 65 (.slice none 0 cap) (.slice none 0 0)).run Try.prog w = .ok (.bool true) w := fun _ => rfl
    simp only [List.length_nil]
    go_enter Try.func53, Try.ntmps53
    go_wp2_with fail
    go_ret
    exact ⟨_, rfl, World.ownsRow_nil _ _ _ _, Below.refl _ _⟩
  | some a =>
    have he : ∀ w : World, (binOp .eql 65 (.slice (some a) l.length cap) (.slice none 0 0)).run Try.prog w = .ok (.bool false) w := fun _ => rfl
    have HC := Lib.hid (show ∀ j u, (l.flatMap Df.cells)[j]? = some u → (w.alloc (.cells #[] 81)).cell? (a.add j) = some u from fun j u hj => by
      rcases HL.out.2 with h | ⟨b, off, hp, _⟩
      · subst h; simp at hj
      · cases hp
        exact ((Below.refl _ _).alloc' _).keep (HL.out.flat Df.cells_length j u hj))
    go_enter Try.func53, Try.ntmps53
    go_wp2_with (at_builtin; refine append_srow Try.uDf Try.iDf Df.cells_length (by decide) Df.flat_one _ rfl _ _ rfl w.heap.size _ [] rfl a cap l _ rfl rfl (empty_srow _ _ _ _) HC.out ?c1 ?c2 ?_)
    case c1 => simp; omega
    case c2 => exact ((Below.refl _ _).alloc' _).size
    intro v2 w2 hown hgrow
    have GG := Lib.hid (((Below.refl w.heap.size w).alloc' (.cells #[] 81)).grown hgrow ((Below.refl _ _).alloc' _).size (fun k hk => ((empty_srow Df.cells 81 8 w).lt k hk).1))
    have HO := Lib.hid hown
    clear hown hgrow
    go_wp2_with fail
    go_ret
    exact ⟨_, rfl, HO.out, GG.out⟩
theorem Try.uPn : Try.prog.underlying 66 = some (.slice 85) := by kernel_rfl
theorem Try.iPn : (Try.prog.info? 85).map (fun i => (i.zero.map (fun z => z.cells.size), i.size, decide (i.bytes ≤ 1000))) = some (some 7, 7, true) := by kernel_rfl
theorem Pn.cells_length (x : Pn) : x.cells.length = 7 := rfl
theorem Pn.flat_one (l : List Pn) : ∀ u, u ∈ l.flatMap Pn.cells → u.oneCell' = true := by
  intro u hu
  obtain ⟨x, _, hx⟩ := List.mem_flatMap.1 hu
  simp [Pn.cells] at hx
  rcases hx with rfl | rfl | rfl | rfl | rfl | rfl | rfl <;> rfl
set_option maxRecDepth 100000 in
set_option maxHeartbeats 1000000 in
theorem clonePn (p : Option Addr) (cap : Nat) (l : List Pn) (w : World) (h : Lies w p cap 7 Pn.cells l) (hl : l.length ≤ 1000) :
    Calls Try.prog 54 #[.slice p l.length cap] w (GivesS Pn.cells 85 7 l w) := by
  have HL := Lib.hid h
  clear h
  cases p with
  | none =>
    obtain rfl : l = [] := by
      rcases HL.out.2 with h | ⟨b, off, hp, _⟩
      · exact h
      · cases hp
    have he : ∀ w : World, (binOp .eql 66 (.slice none 0 cap) (.slice none 0 0)).run Try.prog w = .ok (.bool true) w := fun _ => rfl
    simp only [List.length_nil]
    go_enter Try.func54, Try.ntmps54
    go_wp2_with fail
    go_ret
    exact ⟨_, rfl, World.ownsRow_nil _ _ _ _, Below.refl _ _⟩
  | some a =>
    have he : ∀ w : World, (binOp .eql 66 (.slice (some a) l.length cap) (.slice none 0 0)).run Try.prog w = .ok (.bool false) w := fun _ => rfl
    have HC := Lib.hid (show ∀ j u, (l.flatMap Pn.cells)[j]? = some u → (w.alloc (.cells #[] 85)).cell? (a.add j) = some u from fun j u hj => by
      rcases HL.out.2 with h | ⟨b, off, hp, _⟩
      · subst h; simp at hj
      · cases hp
        exact ((Below.refl _ _).alloc' _).keep (HL.out.flat Pn.cells_length j u hj))
    go_enter Try.func54, Try.ntmps54
    go_wp2_with (at_builtin; refine append_srow Try.uPn Try.iPn Pn.cells_length (by decide) Pn.flat_one _ rfl _ _ rfl w.heap.size _ [] rfl a cap l _ rfl rfl (empty_srow _ _ _ _) HC.out ?c1 ?c2 ?_)
    case c1 => simp; omega
    case c2 => exact ((Below.refl _ _).alloc' _).size
    intro v2 w2 hown hgrow
    have GG := Lib.hid (((Below.refl w.heap.size w).alloc' (.cells #[] 85)).grown hgrow ((Below.refl _ _).alloc' _).size (fun k hk => ((empty_srow Pn.cells 85 7 w).lt k hk).1))
    have HO := Lib.hid hown
    clear hown hgrow
    go_wp2_with fail
    go_ret
    exact ⟨_, rfl, HO.out, GG.out⟩
theorem Try.uRo : Try.prog.underlying 22 = some (.slice 68) := by kernel_rfl
theorem Try.iRo : (Try.prog.info? 68).map (fun i => (i.zero.map (fun z => z.cells.size), i.size, decide (i.bytes ≤ 1000))) = some (some 5, 5, true) := by kernel_rfl
theorem Ro.cells_length (x : Ro) : x.cells.length = 5 := rfl
theorem Ro.flat_one (l : List Ro) : ∀ u, u ∈ l.flatMap Ro.cells → u.oneCell' = true := by
  intro u hu
  obtain ⟨x, _, hx⟩ := List.mem_flatMap.1 hu
  simp [Ro.cells] at hx
  rcases hx with rfl | rfl | rfl | rfl | rfl <;> rfl
set_option maxRecDepth 100000 in
set_option maxHeartbeats 1000000 in
theorem cloneRo (p : Option Addr) (cap : Nat) (l : List Ro) (w : World) (h : Lies w p cap 5 Ro.cells l) (hl : l.length ≤ 1000) :
    Calls Try.prog 55 #[.slice p l.length cap] w (GivesS Ro.cells 68 5 l w) := by
  have HL := Lib.hid h
  clear h
  cases p with
  | none =>
    obtain rfl : l = [] := by
      rcases HL.out.2 with h | ⟨b, off, hp, _⟩
      · exact h
      · cases hp
    have he : ∀ w : World, (binOp .eql 22 (.slice none 0 cap) (.slice none 0 0)).run Try.prog w = .ok (.bool true) w := fun _ => rfl
    simp only [List.length_nil]
    go_enter Try.func55, Try.ntmps55
    go_wp2_with fail
    go_ret
    exact ⟨_, rfl, World.ownsRow_nil _ _ _ _, Below.refl _ _⟩
  | some a =>
    have he : ∀ w : World, (binOp .eql 22 (.slice (some a) l.length cap) (.slice none 0 0)).run Try.prog w = .ok (.bool false) w := fun _ => rfl
    have HC := Lib.hid (show ∀ j u, (l.flatMap Ro.cells)[j]? = some u → (w.alloc (.cells #[] 68)).cell? (a.add j) = some u from fun j u hj => by
      rcases HL.out.2 with h | ⟨b, off, hp, _⟩
      · subst h; simp at hj
      · cases hp
        exact ((Below.refl _ _).alloc' _).keep (HL.out.flat Ro.cells_length j u hj))
    go_enter Try.func55, Try.ntmps55
    go_wp2_with (at_builtin; refine append_srow Try.uRo Try.iRo Ro.cells_length (by decide) Ro.flat_one _ rfl _ _ rfl w.heap.size _ [] rfl a cap l _ rfl rfl (empty_srow _ _ _ _) HC.out ?c1 ?c2 ?_)
    case c1 => simp; omega
    case c2 => exact ((Below.refl _ _).alloc' _).size
    intro v2 w2 hown hgrow
    have GG := Lib.hid (((Below.refl w.heap.size w).alloc' (.cells #[] 68)).grown hgrow ((Below.refl _ _).alloc' _).size (fun k hk => ((empty_srow Ro.cells 68 5 w).lt k hk).1))
    have HO := Lib.hid hown
    clear hown hgrow
    go_wp2_with fail
    go_ret
    exact ⟨_, rfl, HO.out, GG.out⟩
end Go.Proofs.Ytflbiiflbehleaa
