import Derived.Test.YtflbiiflbehleaaBytes
namespace Go.Proofs.Ytflbiiflbehleaa
open Go.RowKit
theorem take_cells {w : World} {a : Addr} {l : List Int} (h : ∀ (j : Nat) (u : Value), (bcs l)[j]? = some u → w.cell? (a.add j) = some u) (n : Nat) : ∀ (j : Nat) (u : Value), (bcs (l.take n))[j]? = some u → w.cell? (a.add j) = some u := by
  intro j u hj
  refine h j u ?_
  rw [bcs_get] at hj ⊢
  rw [List.getElem?_take] at hj
  split at hj
  · exact hj
  · simp at hj
/-- The empty row that an empty literal makes. -/
theorem empty_row (w : World) : Row (w.alloc (.cells #[] 5)) w.heap.size (.slice (some ⟨w.heap.size, 0, none⟩) 0 0) [] :=
  World.ownsRow_lit (base := w.heap.size) (e := 5) (size := 1) w #[] 0 (Nat.le_refl _) (by unfold maxLen; omega) (by simp)
theorem Gives.mk {l : List Int} {err : Int} {w w' : World} {v : Value} (h : Row w' w.heap.size v l) (g : Grow w w') : Gives l err w (.returned (.tuple #[v, .int .i64 err])) w' := ⟨v, rfl, h, g⟩
theorem bcs_app (a b : List Int) : bcs (a ++ b) = bcs a ++ bcs b := by simp [bcs]
/-- An append of bytes, nil or not, to a row of the call's own. -/
theorem append_byt {ops : Array Oper} {rest : List Oper} {o : Oper} {a : Act} {Q : Exit → Act → World → Prop} (w : World) (hg : o.guard = none) (s x : Operand)
    (ho : o.op = Op.call { callee := Callee.builtin Builtin.append, args := #[s, x], argTypes := #[27, 27] }) (base : Nat) (v : Value) (xs : List Int) (hv : a.eval s = v)
    (p : Option Addr) (cap : Nat) (l : List Int) (n : Nat) (hn : n = l.length) (hx : a.eval x = .slice p n cap) (hown : Row w base v xs) (hb : Byt w p cap l) (hlen : xs.length + l.length ≤ 140737488355328) (hbase : base ≤ w.heap.size)
    (K : ∀ (v' : Value) (w' : World), Row w' base v' (xs ++ l) → w.grownBy w' v.ownBlock → wpList Try.prog ops Q rest (a.put o.dst v') w') : wpList Try.prog ops Q (o :: rest) a w := by
  subst hn
  obtain ⟨i0, hi, hz0, hz1, hz2⟩ := info_parts Try.iu8
  rcases hb with ⟨rfl, rfl, rfl⟩ | ⟨ad, rfl, _, _, hcell⟩
  · refine wpList_append_own_none hg s x _ ho base 5 i0 1 Try.usl hi v xs.length (bcs xs) hv hown hx ?_
    refine K v w (by rw [List.append_nil]; exact hown) ⟨rfl, rfl, rfl, Nat.le_refl _, fun _ _ _ => rfl⟩
  · refine wpList_append_own w hg s x _ ho base 5 i0 (.int .u8 0) 1 1 Try.usl hi hz0 hz1 hz2 rfl (by decide) v xs.length (bcs xs) hv hown ad l.length cap (bcs l) hx (by rw [bcs_length]; omega) hcell (bcs_one _) (by unfold maxLen; omega) (by omega) hbase ?_
    intro v' w' h1 h2 _
    refine K v' w' ?_ h2
    unfold Row
    rw [bcs_app, List.length_append]
    exact h1
theorem Byt.take {w : World} {p : Option Addr} {cap : Nat} {l : List Int} (h : Byt w p cap l) (n : Nat) : Byt w p cap (l.take n) := by
  rcases h with ⟨rfl, rfl, rfl⟩ | ⟨a, rfl, h1, h2, h3⟩
  · exact .inl ⟨rfl, rfl, by simp⟩
  · exact .inr ⟨a, rfl, by rw [List.length_take]; omega, h2, take_cells h3 n⟩
theorem Byt.nilCap {w : World} {cap : Nat} {l : List Int} (h : Byt w none cap l) : cap = 0 ∧ l = [] := by
  rcases h with ⟨_, h1, h2⟩ | ⟨a, h, _⟩
  · exact ⟨h1, h2⟩
  · cases h
theorem Byt.le {w : World} {p : Option Addr} {cap : Nat} {l : List Int} (h : Byt w p cap l) : l.length ≤ cap ∧ cap ≤ 9223372036854775807 := by
  rcases h with ⟨_, rfl, rfl⟩ | ⟨a, _, h1, h2, _⟩
  · exact ⟨by simp, by omega⟩
  · exact ⟨h1, h2⟩
/-- Cut, plainly. -/
def cutS (l : List Int) (n : Int) : List Int × Int := if 200000 < l.length then ([], 4) else if n < 0 ∨ (l.length : Int) < n then ([], 2) else (l.take n.toNat, 0)
set_option maxRecDepth 100000 in
set_option maxHeartbeats 400000 in
theorem ref42_Cut_yes (p : Option Addr) (cap : Nat) (l : List Int) (n : Nat) (w : World) (hl : Byt w p cap l) (h1 : l.length ≤ 200000) (hn : n ≤ l.length) :
    Calls Try.prog 16 #[.slice p l.length cap, .int .i64 n] w (Gives (l.take n) 0 w) := by
  have t1 : decide ((200000 : Int) < (l.length : Int)) = false := by simp; omega
  have t2 : decide ((n : Int) < 0) = false := by simp
  have t3 : decide (l.length < n) = false := by simp; omega
  have HE := Lib.hid (empty_row w)
  have HB := Lib.hid ((hl.take n).grow ((Below.refl w.heap.size w).alloc' (.cells #[] 5)))
  have HL := Lib.hid (show n = (l.take n).length by simp; omega)
  have hle := hl.le
  cases p with
  | none =>
    obtain ⟨rfl, rfl⟩ := hl.nilCap
    obtain rfl : n = 0 := by simpa using hn
    clear hl
    go_enter Try.func16, Try.ntmps16
    go_wp2_with (at_builtin; refine append_byt _ rfl _ _ rfl w.heap.size _ ([]) rfl none 0 ([]) 0 rfl rfl HE.out HB.out ?c1 ?c2 ?_)
    case c1 => simp
    case c2 => simp
    intro v' w' hown hgrow
    have GG := Lib.hid (((Below.refl w.heap.size w).alloc' _).grown hgrow (by simp) (by simp [Value.ownBlock]))
    have HO := Lib.hid hown
    clear hown hgrow
    go_wp2_with fail
    go_ret2
    exact .mk HO.out GG.out
  | some a =>
    clear hl
    go_enter Try.func16, Try.ntmps16
    go_wp2_with (at_builtin; refine append_byt _ rfl _ _ rfl w.heap.size _ ([]) rfl (some a) cap (l.take n) n HL.out rfl HE.out HB.out ?c1 ?c2 ?_)
    case c1 => rw [← HL.out]; simp; omega
    case c2 => simp
    intro v' w' hown hgrow
    have GG := Lib.hid (((Below.refl w.heap.size w).alloc' _).grown hgrow (by simp) (by simp [Value.ownBlock]))
    have HO := Lib.hid hown
    clear hown hgrow
    go_wp2_with fail
    go_ret2
    exact .mk HO.out GG.out
set_option maxRecDepth 100000 in
set_option maxHeartbeats 400000 in
theorem ref42_Cut (p : Option Addr) (cap : Nat) (l : List Int) (n : Int) (w : World) (hl : Byt w p cap l) :
    Calls Try.prog 16 #[.slice p l.length cap, .int .i64 n] w (Gives (cutS l n).1 (cutS l n).2 w) := by
  have hb := hl.le
  by_cases h1 : 200000 < l.length
  · rw [cutS, if_pos h1]
    clear hl
    go_enter Try.func16, Try.ntmps16
    go_wp2_with fail
    go_ret2
    exact .nil (Below.refl _ _)
  · by_cases h2 : n < 0 ∨ (l.length : Int) < n
    · rw [cutS, if_neg h1, if_pos h2]
      clear hl
      rcases h2 with h2 | h2
      all_goals
        go_enter Try.func16, Try.ntmps16
        go_wp2_with fail
        go_ret2
        exact .nil (Below.refl _ _)
    · rw [cutS, if_neg h1, if_neg h2]
      obtain ⟨m, rfl⟩ := Int.eq_ofNat_of_zero_le (show 0 ≤ n by omega)
      exact ref42_Cut_yes p cap l m w hl (by omega) (by omega)
/-- Stretch, plainly. -/
def stretchS (l m : List Int) : List Int × Int := if 200000 < l.length ∨ 200000 < m.length ∨ 200000 < l.length + m.length then ([], 4) else (l ++ m, 0)
set_option maxRecDepth 100000 in
set_option maxHeartbeats 400000 in
theorem ref42_Stretch (p q : Option Addr) (cap cap' : Nat) (l m : List Int) (w : World) (hl : Byt w p cap l) (hm : Byt w q cap' m) :
    Calls Try.prog 18 #[.slice p l.length cap, .slice q m.length cap'] w (Gives (stretchS l m).1 (stretchS l m).2 w) := by
  have b1 := hl.le
  have b2 := hm.le
  by_cases h : 200000 < l.length ∨ 200000 < m.length ∨ 200000 < l.length + m.length
  · rw [stretchS, if_pos h]
    clear hl hm
    by_cases h1 : 200000 < l.length
    · go_enter Try.func18, Try.ntmps18
      go_wp2_with fail
      go_ret2
      exact .nil (Below.refl _ _)
    · by_cases h2 : 200000 < m.length
      · go_enter Try.func18, Try.ntmps18
        go_wp2_with fail
        go_ret2
        exact .nil (Below.refl _ _)
      · have h3 : 200000 < l.length + m.length := by omega
        go_enter Try.func18, Try.ntmps18
        go_wp2_with fail
        go_ret2
        exact .nil (Below.refl _ _)
  · rw [stretchS, if_neg h]
    have HE := Lib.hid (empty_row w)
    have HB := Lib.hid (hl.grow ((Below.refl _ _).alloc' (.cells #[] 5)))
    have HM := Lib.hid hm
    have h1 : l.length ≤ 200000 := by omega
    have h2 : m.length ≤ 200000 := by omega
    have h3 : l.length + m.length ≤ 200000 := by omega
    clear h hl hm
    go_enter Try.func18, Try.ntmps18
    go_wp2_with (at_builtin; refine append_byt _ rfl _ _ rfl w.heap.size _ ([]) rfl p cap (l) _ rfl rfl HE.out HB.out ?c1 ?c2 ?_)
    case c1 => simp; omega
    case c2 => simp
    intro v1 w1 hown hgrow
    have G1 := (((Below.refl w.heap.size w).alloc' _).grown hgrow (by simp) (by simp [Value.ownBlock]))
    have GG := Lib.hid G1
    have HO := Lib.hid (show Row w1 w.heap.size v1 l from hown)
    have HM1 := Lib.hid (HM.out.grow G1)
    have hs := G1.size
    clear hown hgrow G1
    go_wp2_with (at_builtin; refine append_byt _ rfl _ _ rfl w.heap.size _ (l) rfl q cap' (m) _ rfl rfl HO.out HM1.out ?c1 ?c2 ?_)
    case c1 => omega
    case c2 => exact hs
    intro v2 w2 hown hgrow
    have G2 := Lib.hid (GG.out.grown hgrow hs (fun k hk => (HO.out.lt k hk).1))
    have HO2 := Lib.hid hown
    clear hown hgrow
    go_wp2_with fail
    go_ret2
    exact .mk HO2.out G2.out
end Go.Proofs.Ytflbiiflbehleaa
