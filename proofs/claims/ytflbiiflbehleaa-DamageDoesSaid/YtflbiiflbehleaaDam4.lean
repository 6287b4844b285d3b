import Derived.Test.YtflbiiflbehleaaDam2
namespace Go.Proofs.Ytflbiiflbehleaa
open Go.RowKit
set_option maxRecDepth 100000 in
set_option maxHeartbeats 1000000 in
theorem swap1 (g pk pi : Nat) (l : List Int) (i k : Nat) (w0 w : World) (hg : Grow w0 w) (hrow : Row w w0.heap.size (.slice (some ⟨g, 0, none⟩) l.length l.length) l)
    (hc : w0.cell? ⟨pk, 0, none⟩ = some (.int .i64 k)) (ha : w0.cell? ⟨pi, 0, none⟩ = some (.int .i64 i)) (hgb : w0.heap.size ≤ g) (hl : l.length ≤ 200000) (h2 : i < l.length) (h3 : k < l.length) :
    Calls Try.prog 48 #[.slice (some ⟨g, 0, none⟩) l.length l.length, .pointer (some ⟨pk, 0, none⟩), .pointer (some ⟨pi, 0, none⟩)] w (Ends (RowIn w0 (swapL l i k))) := by
  have HO := Lib.hid hrow
  have d1 := hg.keep hc
  have d2 := hg.keep ha
  have hn1 : pk ≠ g := by have := cell_lt hc; simp only at this; omega
  have hn2 : pi ≠ g := by have := cell_lt ha; simp only at this; omega
  have hn3 : g ≠ pk := fun h => hn1 h.symm
  have hn4 : g ≠ pi := fun h => hn2 h.symm
  obtain ⟨g', gc, e, _, hgl, _, hgcell⟩ := hrow.place (by omega)
  simp only [Value.slice.injEq, Option.some.injEq, Addr.mk.injEq, and_true, true_and] at e
  obtain ⟨rfl, rfl⟩ := e
  obtain ⟨c1, c2⟩ := hgcell i h2
  obtain ⟨c3, c4⟩ := hgcell k h3
  have HL := Lib.hid (show swapL l i k = (l.set i (l.getD k 0)).set k (l.getD i 0) from rfl)
  clear hrow hc ha hgcell
  generalize l.getD i 0 = x at *
  generalize l.getD k 0 = y at *
  by_cases hik : i = k
  · subst hik
    obtain rfl : x = y := by have := c1.symm.trans c3; simpa using this
    clear c3 c4
    go_enter Try.func48, Try.ntmps48
    go_wp2_with fail
    go_region
    all_goals
      go_wp2_with fail
      go_ret
      refine ⟨_, rfl, ?_, ((hg.setCell (by exact hgb) _).setCell (by exact hgb) _).drew⟩
      rw [HL.out]
      exact HO.out.set2 i i x x
  · have hki : ¬ k = i := fun h => hik h.symm
    have hik' : i ≠ k := hik
    have hki' : k ≠ i := hki
    go_enter Try.func48, Try.ntmps48
    go_wp2_with fail
    go_region
    all_goals
      go_wp2_with fail
      go_ret
      refine ⟨_, rfl, ?_, ((hg.setCell (by exact hgb) _).setCell (by exact hgb) _).drew⟩
      rw [HL.out]
      first
        | exact HO.out.set2 i k y x
        | (rw [List.set_comm _ _ hik]; exact HO.out.set2 k i x y)
set_option maxRecDepth 100000 in
set_option maxHeartbeats 1000000 in
theorem damage_Swap (p : Option Addr) (cap : Nat) (l : List Int) (i k : Int) (w : World) (hl : Byt w p cap l) :
    Calls Try.prog 19 #[.slice p l.length cap, .int .i64 i, .int .i64 k] w (Gives (swapS l i k).1 (swapS l i k).2 w) := by
  have b1 := hl.le
  have GA := Lib.hid (show Grow w ((w.alloc (.cells #[.int .i64 i] 3)).alloc (.cells #[.int .i64 k] 3)) from ((Below.refl _ _).alloc' _).alloc' _)
  have HL := Lib.hid (hl.grow GA.out)
  clear hl
  by_cases h1 : 200000 < l.length
  · rw [swapS, if_pos h1]
    have HC := Lib.hid (fun b fv => damage_changed_many p cap l b fv _ HL.out h1)
    go_enter Try.func19, Try.ntmps19
    go_wp2_with (go_at_call 44; ((with_reducible refine (HC.out _ _).mono ?_); rintro e w' ⟨v, rfl, hr, hg⟩; have HR := Lib.hid hr; clear hr))
    all_goals
      go_ret2
      exact .mk (HR.out.lower GA.out.size) (GA.out.then hg)
  · by_cases h2 : i < 0 ∨ (l.length : Int) ≤ i ∨ k < 0 ∨ (l.length : Int) ≤ k
    · rw [swapS, if_neg h1, if_pos h2]
      have HC := Lib.hid (show ∀ (b : Bool) (fv : Value), b = false → Calls Try.prog 44 #[.slice p l.length cap, .bool b, fv] _ (Gives [] 2 _) from fun b fv hb => by subst hb; exact damage_changed_not p cap l fv _ HL.out (by omega))
      go_enter Try.func19, Try.ntmps19
      go_wp2_with fail
      all_goals
        refine (HC.out _ _ (by first | rfl | (simp; omega))).mono ?_
        rintro e w' ⟨v, rfl, hr, hg⟩
        have HR := Lib.hid hr
        clear hr
        go_wp2_with fail
        go_ret2
        exact .mk (HR.out.lower GA.out.size) (GA.out.then hg)
    · rw [swapS, if_neg h1, if_neg h2]
      obtain ⟨m, rfl⟩ := Int.eq_ofNat_of_zero_le (show 0 ≤ i by omega)
      obtain ⟨n, rfl⟩ := Int.eq_ofNat_of_zero_le (show 0 ≤ k by omega)
      have HC := Lib.hid (damage_changed p cap l 48 #[.pointer (some ⟨w.heap.size + 1, 0, none⟩), .pointer (some ⟨w.heap.size, 0, none⟩)] (RowIn ((w.alloc (.cells #[.int .i64 (m : Int)] 3)).alloc (.cells #[.int .i64 (n : Int)] 3)) (swapL l m n)) _ HL.out (by omega) (by intros; kernel_rfl) fun g w1 hgb hg hr =>
        swap1 g (w.heap.size + 1) w.heap.size l m n _ w1 hg hr (by go_simp) (by go_simp) hgb (by omega) (by omega) (by omega))
      have HC2 := Lib.hid (show ∀ b : Bool, b = true → Calls Try.prog 44 #[.slice p l.length cap, .bool b, .func (.func 48) #[] #[.pointer (some ⟨w.heap.size + 1, 0, none⟩), .pointer (some ⟨w.heap.size, 0, none⟩)]] _ (Done _) from fun b hb => by subst hb; exact HC.out)
      clear HC
      rw [Int.toNat_natCast, Int.toNat_natCast]
      go_enter Try.func19, Try.ntmps19
      go_wp2_with fail
      all_goals
        refine (HC2.out _ (by first | rfl | (simp; omega))).mono ?_
        rintro e w' ⟨v, rfl, hr⟩
        have HR := Lib.hid hr
        clear hr
        go_wp2_with fail
        go_ret2
        exact HR.out.gives GA.out
end Go.Proofs.Ytflbiiflbehleaa
