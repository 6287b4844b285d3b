import Derived.Test.YtflbiiflbehleaaDamRef2
namespace Go.Proofs.Ytflbiiflbehleaa
open Go.RowKit
/-- Swap, plainly. -/
def swapL (l : List Int) (i k : Nat) : List Int := (l.set i (l.getD k 0)).set k (l.getD i 0)
def swapS (l : List Int) (i k : Int) : List Int × Int :=
  if 200000 < l.length then ([], 4) else if i < 0 ∨ (l.length : Int) ≤ i ∨ k < 0 ∨ (l.length : Int) ≤ k then ([], 2) else (swapL l i.toNat k.toNat, 0)
theorem swapL_length (l : List Int) (i k : Nat) : (swapL l i k).length = l.length := by simp [swapL]
/-- The slice that a literal of one byte makes. -/
theorem one_byt (w : World) (m : Int) : Byt (w.alloc (.cells #[.int .u8 m] 5)) (some ⟨w.heap.size, 0, none⟩) 1 [m] := by
  refine .inr ⟨_, rfl, by simp, by omega, fun j u hj => ?_⟩
  have e : j = 0 := by
    have := (List.getElem?_eq_some_iff.1 hj).1
    simp [bcs] at this
    exact this
  subst e
  simp [bcs] at hj
  subst hj
  have h0 : (w.alloc (.cells #[.int .u8 m] 5)).heap[w.heap.size]? = some (.cells #[.int .u8 m] 5 (0, 0)) := by show (w.heap.push _)[w.heap.size]? = _; simp
  simp only [Addr.add, if_true, World.cell?, h0]
  rfl
theorem Row.set2 {w : World} {base g cap : Nat} {l : List Int} (h : Row w base (.slice (some ⟨g, 0, none⟩) l.length cap) l) (i k : Nat) (x y : Int) :
    Row ((w.setCell ⟨g, i, none⟩ (.int .u8 x)).setCell ⟨g, k, none⟩ (.int .u8 y)) base (.slice (some ⟨g, 0, none⟩) l.length cap) ((l.set i x).set k y) := by
  have h1 := h.set i x
  have e : (l.set i x).length = l.length := by simp
  rw [← e] at h1
  have h2 := h1.set k y
  rwa [e] at h2
set_option maxRecDepth 100000 in
set_option maxHeartbeats 1000000 in
theorem ref42_Swap_yes (p : Option Addr) (cap : Nat) (l : List Int) (i k : Nat) (w : World) (hl : Byt w p cap l) (h1 : l.length ≤ 200000) (h2 : i < l.length) (h3 : k < l.length) :
    Calls Try.prog 20 #[.slice p l.length cap, .int .i64 i, .int .i64 k] w (Gives (swapL l i k) 0 w) := by
  have b1 := hl.le
  have t1 : decide ((200000 : Int) < (l.length : Int)) = false := by simp; omega
  have t2 : decide ((i : Int) < 0) = false := by simp
  have t3 : decide ((k : Int) < 0) = false := by simp
  have t4 : decide (l.length ≤ i) = false := by simp; omega
  have t5 : decide (l.length ≤ k) = false := by simp; omega
  obtain ⟨pb, po, rfl, hpb, hpcell⟩ := hl.place (by omega)
  have HE := Lib.hid (empty_row w)
  have HB := Lib.hid (hl.grow ((Below.refl _ _).alloc' (.cells #[] 5)))
  have HPC := Lib.hid hpcell
  clear hl hpcell
  go_enter Try.func20, Try.ntmps20
  go_wp2_with (at_builtin; refine append_byt _ rfl _ _ rfl w.heap.size _ ([]) rfl (some ⟨pb, po, none⟩) cap (l) _ rfl rfl HE.out HB.out ?c1 ?c2 ?_)
  case c1 => simp; omega
  case c2 => simp
  intro v1 w1 hown hgrow
  have G1 := (((Below.refl w.heap.size w).alloc' _).grown hgrow (by simp) (by simp [Value.ownBlock]))
  have GG := Lib.hid G1
  have HO := Lib.hid (show Row w1 w.heap.size v1 l from hown)
  clear hown hgrow
  obtain ⟨g, gc, rfl, hgb, hgl, hgc, hgcell⟩ := HO.out.place (by omega)
  obtain ⟨c1, c2⟩ := hgcell i h2
  obtain ⟨c3, c4⟩ := hgcell k h3
  have c5 := G1.keep (HPC.out i h2)
  have c6 := G1.keep (HPC.out k h3)
  have hpz : pb < w1.heap.size := cell_lt c5
  have hne1 : pb ≠ g := by omega
  clear hgcell G1
  have HL := Lib.hid (show swapL l i k = (l.set i (l.getD k 0)).set k (l.getD i 0) from rfl)
  generalize l.getD i 0 = x at *
  generalize l.getD k 0 = y at *
  by_cases hik : i = k
  · subst hik
    obtain rfl : x = y := by have := c1.symm.trans c3; simpa using this
    clear c3 c4 c6
    go_wp2_with fail
    go_region
    all_goals
      go_wp2_with fail
      go_ret2
      refine .mk ?_ (((GG.out.setCell (by exact hgb) _).setCell (by exact hgb) _).drew)
      rw [HL.out]
      exact HO.out.set2 i i x x
  · have hki : ¬ k = i := fun h => hik h.symm
    have hik' : i ≠ k := hik
    have hki' : k ≠ i := hki
    go_wp2_with fail
    go_region
    all_goals
      go_wp2_with fail
      go_ret2
      refine .mk ?_ (((GG.out.setCell (by exact hgb) _).setCell (by exact hgb) _).drew)
      rw [HL.out]
      first
        | exact HO.out.set2 i k y x
        | (rw [List.set_comm _ _ hik]; exact HO.out.set2 k i x y)
set_option maxRecDepth 100000 in
set_option maxHeartbeats 1000000 in
theorem ref42_Swap (p : Option Addr) (cap : Nat) (l : List Int) (i k : Int) (w : World) (hl : Byt w p cap l) :
    Calls Try.prog 20 #[.slice p l.length cap, .int .i64 i, .int .i64 k] w (Gives (swapS l i k).1 (swapS l i k).2 w) := by
  have b1 := hl.le
  by_cases h1 : 200000 < l.length
  · rw [swapS, if_pos h1]
    clear hl
    go_enter Try.func20, Try.ntmps20
    go_wp2_with fail
    go_ret2
    exact .nil (Below.refl _ _)
  · by_cases h2 : i < 0 ∨ (l.length : Int) ≤ i ∨ k < 0 ∨ (l.length : Int) ≤ k
    · rw [swapS, if_neg h1, if_pos h2]
      clear hl
      by_cases g1 : i < 0
      · go_enter Try.func20, Try.ntmps20
        go_wp2_with fail
        go_ret2
        exact .nil (Below.refl _ _)
      · by_cases g2 : (l.length : Int) ≤ i
        · go_enter Try.func20, Try.ntmps20
          go_wp2_with fail
          go_ret2
          exact .nil (Below.refl _ _)
        · by_cases g3 : k < 0
          · go_enter Try.func20, Try.ntmps20
            go_wp2_with fail
            go_ret2
            exact .nil (Below.refl _ _)
          · have g4 : (l.length : Int) ≤ k := by omega
            clear h2
            go_enter Try.func20, Try.ntmps20
            go_wp2_with fail
            go_ret2
            exact .nil (Below.refl _ _)
    · rw [swapS, if_neg h1, if_neg h2]
      obtain ⟨m, rfl⟩ := Int.eq_ofNat_of_zero_le (show 0 ≤ i by omega)
      obtain ⟨n, rfl⟩ := Int.eq_ofNat_of_zero_le (show 0 ≤ k by omega)
      exact ref42_Swap_yes p cap l m n w hl (by omega) (by omega) (by omega)
set_option maxRecDepth 100000 in
set_option maxHeartbeats 1000000 in
theorem ref42_Flip (p : Option Addr) (cap : Nat) (l : List Int) (k m : Int) (w : World) (hl : Byt w p cap l) (hk : -9223372036854775808 ≤ k ∧ k ≤ 9223372036854775807) :
    Calls Try.prog 12 #[.slice p l.length cap, .int .i64 k, .int .u8 m] w (Gives (burstS l k [m]).1 (burstS l k [m]).2 w) := by
  have HB := Lib.hid (hl.grow ((Below.refl _ _).alloc' (.cells #[.int .u8 m] 5)))
  have HM := Lib.hid (one_byt w m)
  have HK := Lib.hid hk
  clear hl hk
  go_enter Try.func12, Try.ntmps12
  go_wp2_with fail
  refine (ref42_Burst p (some ⟨w.heap.size, 0, none⟩) cap 1 l [m] k _ HB.out HM.out HK.out).mono ?_
  rintro e w' ⟨v, rfl, hrow, hg⟩
  have HR := Lib.hid hrow
  clear hrow
  go_wp2_with fail
  go_ret2
  exact .mk (HR.out.lower (by simp)) (((Below.refl w.heap.size w).alloc' _).then hg)
end Go.Proofs.Ytflbiiflbehleaa
