import Derived.Test.YtflbiiflbehleaaDam2
namespace Go.Proofs.Ytflbiiflbehleaa
open Go.RowKit
theorem Row.set' {w : World} {base g cap n : Nat} {l : List Int} (h : Row w base (.slice (some ⟨g, 0, none⟩) n cap) l) (j : Nat) (z : Int) (hn : l.length = n) : Row (w.setCell ⟨g, j, none⟩ (.int .u8 z)) base (.slice (some ⟨g, 0, none⟩) n cap) (l.set j z) := by
  subst hn; exact h.set j z
set_option maxRecDepth 100000 in
set_option maxHeartbeats 1000000 in
theorem burst1 (g pm pa : Nat) (l ms : List Int) (k : Nat) (q : Option Addr) (cap' : Nat) (w0 w : World) (hg : Grow w0 w) (hrow : Row w w0.heap.size (.slice (some ⟨g, 0, none⟩) l.length l.length) l) (hm : Byt w0 q cap' ms)
    (hc : w0.cell? ⟨pm, 0, none⟩ = some (.slice q ms.length cap')) (ha : w0.cell? ⟨pa, 0, none⟩ = some (.int .i64 k)) (hgb : w0.heap.size ≤ g) (hl : l.length ≤ 200000) (h3 : k + ms.length ≤ l.length) :
    Calls Try.prog 45 #[.slice (some ⟨g, 0, none⟩) l.length l.length, .pointer (some ⟨pm, 0, none⟩), .pointer (some ⟨pa, 0, none⟩)] w (Ends (RowIn w0 (xorTo l k ms ms.length))) := by
  have b2 := hm.le
  have HR := Lib.hid hrow
  have HM := Lib.hid hm
  have HA := Lib.hid ha
  have c0 := hg.keep hc
  clear hrow hm ha hc
  by_cases hz : ms.length = 0
  · have e : ms = [] := List.length_eq_zero_iff.1 hz
    subst e
    clear hz
    go_enter Try.func45, Try.ntmps45
    go_wp2_with fail
    refine wp_loop_rounds 1 ?_
    rw [rounds_succ]
    go_wp2_with fail
    go_ret
    exact ⟨_, rfl, HR.out, hg⟩
  · obtain ⟨mb, mo, rfl, hmb, hmcell⟩ := HM.out.place (by omega)
    have HMC := Lib.hid hmcell
    clear hmcell
    go_enter Try.func45, Try.ntmps45
    go_wp2_with fail
    go_loopw [9] (fun i wr => ∃ n : Nat, n ≤ ms.length ∧ i = .int .i64 n ∧ Grow w0 wr ∧ Row wr w0.heap.size (.slice (some ⟨g, 0, none⟩) l.length l.length) (xorTo l k ms n)) (fun i _ => ms.length - (intOf i).toNat)
    case atStart => exact ⟨0, Nat.zero_le _, rfl, hg, HR.out⟩
    case round =>
      clear hg c0
      obtain ⟨n, hn, rfl, hbl, hrow⟩ := hrel
      by_cases hlt : n < ms.length
      · have hxl := xorTo_length l k ms n
        obtain ⟨g', gc', e, _, hgl', _, hcell⟩ := hrow.place (by omega)
        simp only [Value.slice.injEq, Option.some.injEq, Addr.mk.injEq, and_true] at e
        obtain ⟨rfl, _, rfl⟩ := e
        obtain ⟨c1, c2⟩ := hcell (k + n) (by omega)
        have c3 := hbl.keep (HMC.out n hlt)
        have c4 := hbl.keep HA.out
        have HR := Lib.hid hrow
        obtain ⟨xv, hxv⟩ : ∃ xv, xv = (xorTo l k ms n).getD (k + n) 0 := ⟨_, rfl⟩
        obtain ⟨yv, hyv⟩ : ∃ yv, yv = ms.getD n 0 := ⟨_, rfl⟩
        rw [← hxv] at c1
        rw [← hyv] at c3
        have HSU := Lib.hid (show xorTo l k ms (n + 1) = (xorTo l k ms n).set (k + n) (bits BinOp.xor .u8 xv yv) by rw [xorTo, ← hxv, ← hyv]; rfl)
        have HXL := Lib.hid hxl
        clear hcell hrow hxv hyv hxl
        go_wp2_with fail
        refine ⟨⟨n + 1, by omega, by go_num, hbl.setCell (by exact hgb) _, ?_⟩, by simp [intOf]; omega⟩
        rw [HSU.out]
        have e := HR.out
        have := e.set' (k + n) (bits BinOp.xor .u8 xv yv) HXL.out
        exact this
      · obtain rfl : n = ms.length := by omega
        have HR := Lib.hid hrow
        clear hrow
        go_wp2_with fail
        go_ret
        exact ⟨_, rfl, HR.out, hbl⟩
set_option maxRecDepth 100000 in
set_option maxHeartbeats 1000000 in
theorem damage_Burst (p q : Option Addr) (cap cap' : Nat) (l ms : List Int) (k : Int) (w : World) (hl : Byt w p cap l) (hm : Byt w q cap' ms) (hk : -9223372036854775808 ≤ k ∧ k ≤ 9223372036854775807) :
    Calls Try.prog 13 #[.slice p l.length cap, .int .i64 k, .slice q ms.length cap'] w (Gives (burstS l k ms).1 (burstS l k ms).2 w) := by
  have b1 := hl.le
  have b2 := hm.le
  obtain ⟨k1, k2⟩ := hk
  have GA := Lib.hid (show Grow w ((w.alloc (.cells #[.int .i64 k] 3)).alloc (.cells #[.slice q ms.length cap'] 27)) from ((Below.refl _ _).alloc' _).alloc' _)
  have HL := Lib.hid (hl.grow GA.out)
  have HM := Lib.hid (hm.grow GA.out)
  clear hl hm
  by_cases h1 : 200000 < l.length
  · rw [burstS, if_pos h1]
    have HC := Lib.hid (fun b fv => damage_changed_many p cap l b fv _ HL.out h1)
    go_enter Try.func13, Try.ntmps13
    go_wp2_with (go_at_call 44; ((with_reducible refine (HC.out _ _).mono ?_); rintro e w' ⟨v, rfl, hr, hg⟩; have HR := Lib.hid hr; clear hr))
    all_goals
      go_ret2
      exact .mk (HR.out.lower GA.out.size) (GA.out.then hg)
  · by_cases h2 : 4 < ms.length ∨ k < 0 ∨ (l.length : Int) < k ∨ (l.length : Int) - k < ms.length
    · rw [burstS, if_neg h1, if_pos h2]
      have HC := Lib.hid (fun fv => damage_changed_not p cap l fv _ HL.out (by omega))
      by_cases g1 : 4 < ms.length
      · have t1 : decide ((ms.length : Int) ≤ 4) = false := by simp; omega
        clear h2
        go_enter Try.func13, Try.ntmps13
        go_wp2_with (go_at_call 44; ((with_reducible refine (HC.out _).mono ?_); rintro e w' ⟨v, rfl, hr, hg⟩; have HR := Lib.hid hr; clear hr))
        go_ret2
        exact .mk (HR.out.lower GA.out.size) (GA.out.then hg)
      have t1 : decide ((ms.length : Int) ≤ 4) = true := by simp; omega
      by_cases g2 : k < 0
      · have t2 : decide (0 ≤ k) = false := by simp; omega
        clear h2
        go_enter Try.func13, Try.ntmps13
        go_wp2_with (go_at_call 44; ((with_reducible refine (HC.out _).mono ?_); rintro e w' ⟨v, rfl, hr, hg⟩; have HR := Lib.hid hr; clear hr))
        go_ret2
        exact .mk (HR.out.lower GA.out.size) (GA.out.then hg)
      have t2 : decide (0 ≤ k) = true := by simp; omega
      by_cases g3 : (l.length : Int) < k
      · have t3 : decide (k ≤ (l.length : Int)) = false := by simp; omega
        clear h2
        go_enter Try.func13, Try.ntmps13
        go_wp2_with (go_at_call 44; ((with_reducible refine (HC.out _).mono ?_); rintro e w' ⟨v, rfl, hr, hg⟩; have HR := Lib.hid hr; clear hr))
        go_ret2
        exact .mk (HR.out.lower GA.out.size) (GA.out.then hg)
      have t3 : decide (k ≤ (l.length : Int)) = true := by simp; omega
      have t4 : decide ((ms.length : Int) ≤ (l.length : Int) - k) = false := by simp; omega
      clear h2
      go_enter Try.func13, Try.ntmps13
      go_wp2_with (go_at_call 44; ((with_reducible refine (HC.out _).mono ?_); rintro e w' ⟨v, rfl, hr, hg⟩; have HR := Lib.hid hr; clear hr))
      go_ret2
      exact .mk (HR.out.lower GA.out.size) (GA.out.then hg)
    · rw [burstS, if_neg h1, if_neg h2]
      obtain ⟨m, rfl⟩ := Int.eq_ofNat_of_zero_le (show 0 ≤ k by omega)
      have t1 : decide ((ms.length : Int) ≤ 4) = true := by simp; omega
      have t3 : decide (m ≤ l.length) = true := by simp; omega
      have t4 : decide ((ms.length : Int) ≤ (l.length : Int) - (m : Int)) = true := by simp; omega
      have HC := Lib.hid (damage_changed p cap l 45 #[.pointer (some ⟨w.heap.size + 1, 0, none⟩), .pointer (some ⟨w.heap.size, 0, none⟩)] (RowIn ((w.alloc (.cells #[.int .i64 (m : Int)] 3)).alloc (.cells #[.slice q ms.length cap'] 27)) (xorTo l m ms ms.length)) _ HL.out (by omega) (by intros; kernel_rfl) fun g w1 hgb hg hr =>
        burst1 g (w.heap.size + 1) w.heap.size l ms m q cap' _ w1 hg hr HM.out (by go_simp) (by go_simp) hgb (by omega) (by omega))
      have hle : l.length ≤ 200000 := by omega
      have hle2 : m + ms.length ≤ l.length := by omega
      clear h1 h2
      rw [Int.toNat_natCast]
      go_enter Try.func13, Try.ntmps13
      go_wp2_with (go_at_call 44; ((with_reducible refine HC.out.mono ?_); rintro e w' ⟨v, rfl, hr⟩); have HR := Lib.hid hr; clear hr)
      go_ret2
      exact HR.out.gives GA.out
set_option maxRecDepth 100000 in
set_option maxHeartbeats 1000000 in
theorem damage_Flip (p : Option Addr) (cap : Nat) (l : List Int) (k m : Int) (w : World) (hl : Byt w p cap l) (hk : -9223372036854775808 ≤ k ∧ k ≤ 9223372036854775807) :
    Calls Try.prog 11 #[.slice p l.length cap, .int .i64 k, .int .u8 m] w (Gives (burstS l k [m]).1 (burstS l k [m]).2 w) := by
  have HB := Lib.hid (hl.grow ((Below.refl _ _).alloc' (.cells #[.int .u8 m] 5)))
  have HM := Lib.hid (one_byt w m)
  have HK := Lib.hid hk
  clear hl hk
  go_enter Try.func11, Try.ntmps11
  go_wp2_with fail
  refine (damage_Burst p (some ⟨w.heap.size, 0, none⟩) cap 1 l [m] k _ HB.out HM.out HK.out).mono ?_
  rintro e w' ⟨v, rfl, hrow, hg⟩
  have HR := Lib.hid hrow
  clear hrow
  go_wp2_with fail
  go_ret2
  exact .mk (HR.out.lower (by simp)) (((Below.refl w.heap.size w).alloc' _).then hg)
end Go.Proofs.Ytflbiiflbehleaa
