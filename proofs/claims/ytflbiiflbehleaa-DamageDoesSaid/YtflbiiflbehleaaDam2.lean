import Derived.Test.YtflbiiflbehleaaDam
namespace Go.Proofs.Ytflbiiflbehleaa
open Go.RowKit
set_option maxRecDepth 100000 in
set_option maxHeartbeats 1000000 in
theorem damage_changed_many (p : Option Addr) (cap : Nat) (l : List Int) (b : Bool) (fv : Value) (w : World) (hl : Byt w p cap l) (h1 : 200000 < l.length) :
    Calls Try.prog 44 #[.slice p l.length cap, .bool b, fv] w (Gives [] 4 w) := by
  have b1 := hl.le
  clear hl
  go_enter Try.func44, Try.ntmps44
  go_wp2_with fail
  go_ret2
  exact .nil (Below.refl _ _)
set_option maxRecDepth 100000 in
set_option maxHeartbeats 1000000 in
theorem damage_changed_not (p : Option Addr) (cap : Nat) (l : List Int) (fv : Value) (w : World) (hl : Byt w p cap l) (h1 : l.length ≤ 200000) :
    Calls Try.prog 44 #[.slice p l.length cap, .bool false, fv] w (Gives [] 2 w) := by
  have b1 := hl.le
  clear hl
  go_enter Try.func44, Try.ntmps44
  go_wp2_with fail
  go_ret2
  exact .nil (Below.refl _ _)
theorem Row.cut {w : World} {base g cap : Nat} {l : List Int} (h : Row w base (.slice (some ⟨g, 0, none⟩) l.length cap) l) {n : Nat} (hn : n ≤ l.length) : Row w base (.slice (some ⟨g, 0, none⟩) n cap) (l.take n) := by
  have e : (l.take n).length = n := by simp; omega
  refine ⟨by rw [bcs_length]; omega, ?_⟩
  rcases h.2 with ⟨h', _⟩ | ⟨g', cap', cur, h', hg, hh, hc, hm, hs, ht⟩
  · cases h'
  · simp only [Value.slice.injEq, Option.some.injEq, Addr.mk.injEq, and_true, true_and] at h'
    obtain ⟨rfl, rfl⟩ := h'
    refine .inr ⟨g, cap, cur, by rw [e], hg, hh, by omega, hm, hs, ?_⟩
    rw [e, Nat.mul_one]
    rw [Nat.mul_one] at ht
    have : bcs (l.take n) = (bcs l).take n := by simp [bcs, List.map_take]
    rw [this, ← ht, List.take_take]
    congr 1
    omega
/-- A closure hands back a row, and nothing that lay before has turned. -/
def RowIn (w : World) (l : List Int) (v : Value) (w' : World) : Prop := Row w' w.heap.size v l ∧ Grow w w'
theorem RowIn.gives {w w1 : World} {l : List Int} {v : Value} {w' : World} (g : Grow w w1) (h : RowIn w1 l v w') : Gives l 0 w (.returned (.tuple #[v, .int .i64 0])) w' :=
  ⟨v, rfl, h.1.lower g.size, g.then h.2⟩
set_option maxRecDepth 100000 in
set_option maxHeartbeats 1000000 in
theorem cut1 (g b : Nat) (l : List Int) (n : Nat) (w0 w : World) (hg : Grow w0 w) (hrow : Row w w0.heap.size (.slice (some ⟨g, 0, none⟩) l.length l.length) l) (hn : n ≤ l.length) (hc : w.cell? ⟨b, 0, none⟩ = some (.int .i64 n)) :
    Calls Try.prog 46 #[.slice (some ⟨g, 0, none⟩) l.length l.length, .pointer (some ⟨b, 0, none⟩)] w (Ends (RowIn w0 (l.take n))) := by
  have HR := Lib.hid (hrow.cut hn)
  clear hrow
  go_enter Try.func46, Try.ntmps46
  go_wp2_with fail
  go_ret
  exact ⟨_, rfl, HR.out, hg⟩
set_option maxRecDepth 100000 in
set_option maxHeartbeats 1000000 in
theorem damage_Cut (p : Option Addr) (cap : Nat) (l : List Int) (n : Int) (w : World) (hl : Byt w p cap l) :
    Calls Try.prog 15 #[.slice p l.length cap, .int .i64 n] w (Gives (cutS l n).1 (cutS l n).2 w) := by
  have b1 := hl.le
  have GA := Lib.hid (show Grow w (w.alloc (.cells #[.int .i64 n] 3)) from (Below.refl _ _).alloc' _)
  have HL := Lib.hid (hl.grow GA.out)
  clear hl
  by_cases h1 : 200000 < l.length
  · rw [cutS, if_pos h1]
    have HC := Lib.hid (fun b fv => damage_changed_many p cap l b fv _ HL.out h1)
    go_enter Try.func15, Try.ntmps15
    go_wp2_with (go_at_call 44; refine (HC.out _ _).mono ?_; rintro e w' ⟨v, rfl, hr, hg⟩; have HR := Lib.hid hr; clear hr)
    all_goals
      go_ret2
      exact .mk (HR.out.lower (by simp)) (GA.out.then hg)
  · by_cases h2 : n < 0 ∨ (l.length : Int) < n
    · rw [cutS, if_neg h1, if_pos h2]
      have HC := Lib.hid (fun fv => damage_changed_not p cap l fv _ HL.out (by omega))
      by_cases h3 : n < 0
      · have t1 : decide (0 ≤ n) = false := by simp; omega
        clear h2 h3
        go_enter Try.func15, Try.ntmps15
        go_wp2_with (go_at_call 44; ((with_reducible refine (HC.out _).mono ?_); rintro e w' ⟨v, rfl, hr, hg⟩; have HR := Lib.hid hr; clear hr))
        go_ret2
        exact .mk (HR.out.lower (by simp)) (GA.out.then hg)
      · have t1 : decide (0 ≤ n) = true := by simp; omega
        have t2 : decide (n ≤ (l.length : Int)) = false := by simp; omega
        clear h2 h3
        go_enter Try.func15, Try.ntmps15
        go_wp2_with (go_at_call 44; ((with_reducible refine (HC.out _).mono ?_); rintro e w' ⟨v, rfl, hr, hg⟩; have HR := Lib.hid hr; clear hr))
        go_ret2
        exact .mk (HR.out.lower (by simp)) (GA.out.then hg)
    · rw [cutS, if_neg h1, if_neg h2]
      obtain ⟨m, rfl⟩ := Int.eq_ofNat_of_zero_le (show 0 ≤ n by omega)
      have hm : m ≤ l.length := by omega
      have t1 : decide (m ≤ l.length) = true := by simp; omega
      have HC := Lib.hid (damage_changed p cap l 46 #[.pointer (some ⟨w.heap.size, 0, none⟩)] (RowIn (w.alloc (.cells #[.int .i64 (m : Int)] 3)) (l.take m)) _ HL.out (by omega) (by intros; kernel_rfl) fun g w1 _ hg hr =>
        cut1 g w.heap.size l m _ w1 hg hr hm (hg.keep (by go_simp)))
      have hle : l.length ≤ 200000 := by omega
      clear h1 h2
      rw [Int.toNat_natCast]
      go_enter Try.func15, Try.ntmps15
      go_wp2_with (go_at_call 44; ((with_reducible refine HC.out.mono ?_); rintro e w' ⟨v, rfl, hr⟩); have HR := Lib.hid hr; clear hr)
      go_ret2
      exact HR.out.gives GA.out
set_option maxRecDepth 100000 in
set_option maxHeartbeats 1000000 in
theorem stretch1 (g b : Nat) (l m : List Int) (q : Option Addr) (cap' : Nat) (w0 w : World) (hg : Grow w0 w) (hrow : Row w w0.heap.size (.slice (some ⟨g, 0, none⟩) l.length l.length) l) (hm : Byt w0 q cap' m) (hc : w.cell? ⟨b, 0, none⟩ = some (.slice q m.length cap')) (hl : l.length + m.length ≤ 200000) :
    Calls Try.prog 47 #[.slice (some ⟨g, 0, none⟩) l.length l.length, .pointer (some ⟨b, 0, none⟩)] w (Ends (RowIn w0 (l ++ m))) := by
  have HR := Lib.hid hrow
  have HM := Lib.hid (hm.grow hg)
  have hs := hg.size
  clear hrow hm
  go_enter Try.func47, Try.ntmps47
  go_wp2_with (at_builtin; refine append_byt _ rfl _ _ rfl w0.heap.size _ l rfl q cap' m _ rfl rfl HR.out HM.out ?c1 ?c2 ?_)
  case c1 => omega
  case c2 => exact hs
  intro v2 w2 hown hgrow
  have G2 := Lib.hid (hg.grown hgrow hs (fun k hk => (HR.out.lt k hk).1))
  have HO2 := Lib.hid hown
  clear hown hgrow
  go_wp2_with fail
  go_ret
  exact ⟨_, rfl, HO2.out, G2.out⟩
set_option maxRecDepth 100000 in
set_option maxHeartbeats 1000000 in
theorem damage_Stretch (p q : Option Addr) (cap cap' : Nat) (l m : List Int) (w : World) (hl : Byt w p cap l) (hm : Byt w q cap' m) :
    Calls Try.prog 17 #[.slice p l.length cap, .slice q m.length cap'] w (Gives (stretchS l m).1 (stretchS l m).2 w) := by
  have b1 := hl.le
  have b2 := hm.le
  have GA := Lib.hid (show Grow w (w.alloc (.cells #[.slice q m.length cap'] 27)) from (Below.refl _ _).alloc' _)
  have HL := Lib.hid (hl.grow GA.out)
  have HM := Lib.hid (hm.grow GA.out)
  clear hl hm
  by_cases h2 : 200000 < m.length
  · rw [stretchS, if_pos (by omega)]
    go_enter Try.func17, Try.ntmps17
    go_wp2_with fail
    go_ret2
    exact .nil GA.out
  · by_cases h3 : 200000 < (l.length : Int) + m.length
    · rw [stretchS, if_pos (by omega)]
      by_cases h4 : (l.length : Int) + m.length ≤ 9223372036854775807
      · go_enter Try.func17, Try.ntmps17
        go_wp2_with fail
        go_ret2
        exact .nil GA.out
      · have HC := Lib.hid (fun b fv => damage_changed_many p cap l b fv _ HL.out (by omega))
        generalize hW : wrap64 ((l.length : Int) + m.length) = W
        have HW := Lib.hid hW
        clear hW
        go_enter Try.func17, Try.ntmps17
        go_wp2_with (go_at_call 44; refine (HC.out _ _).mono ?_; rintro e w' ⟨v, rfl, hr, hg⟩; have HR := Lib.hid hr; clear hr)
        all_goals go_ret2
        all_goals first
          | exact .nil GA.out
          | exact .mk (HR.out.lower (by simp)) (GA.out.then hg)
    · rw [stretchS, if_neg (by omega)]
      have HC := Lib.hid (damage_changed p cap l 47 #[.pointer (some ⟨w.heap.size, 0, none⟩)] (RowIn (w.alloc (.cells #[.slice q m.length cap'] 27)) (l ++ m)) _ HL.out (by omega) (by intros; kernel_rfl) fun g w1 _ hg hr =>
        stretch1 g w.heap.size l m q cap' _ w1 hg hr HM.out (hg.keep (by go_simp)) (by omega))
      have hle : l.length + m.length ≤ 200000 := by omega
      clear h2 h3
      go_enter Try.func17, Try.ntmps17
      go_wp2_with (go_at_call 44; ((with_reducible refine HC.out.mono ?_); rintro e w' ⟨v, rfl, hr⟩); have HR := Lib.hid hr; clear hr)
      go_ret2
      exact HR.out.gives GA.out
end Go.Proofs.Ytflbiiflbehleaa
