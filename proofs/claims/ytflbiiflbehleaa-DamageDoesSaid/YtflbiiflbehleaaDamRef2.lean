import Derived.Test.YtflbiiflbehleaaDamRef
import Derived.Test.YtflbiiflbehleaaTail
import Derived.StillTailTactics
import Derived.BigRegion
import Derived.RegionTactic
namespace Go.Proofs.Ytflbiiflbehleaa
open Go.RowKit
theorem Byt.place {w : World} {p : Option Addr} {cap : Nat} {l : List Int} (h : Byt w p cap l) (h0 : 0 < l.length) : ∃ b off, p = some ⟨b, off, none⟩ ∧ b < w.heap.size ∧ ∀ (j : Nat), j < l.length → w.cell? ⟨b, off + j, none⟩ = some (.int .u8 (l.getD j 0)) := by
  rcases h with ⟨_, _, rfl⟩ | ⟨a, rfl, h1, h2, h3⟩
  · simp at h0
  · obtain ⟨b, off, spot⟩ := a
    have e0 := h3 0 (.int .u8 l[0]) (by rw [bcs_get, List.getElem?_eq_getElem h0]; rfl)
    have hs : spot = none := by
      cases spot with
      | none => rfl
      | some s =>
        simp only [Addr.add, if_true, World.cell?] at e0
        split at e0 <;> simp at e0
    subst hs
    refine ⟨b, off, rfl, ?_, fun j hj => ?_⟩
    · simp only [Addr.add, if_true] at e0
      exact cell_lt e0
    · have := h3 j (.int .u8 l[j]) (by rw [bcs_get, List.getElem?_eq_getElem hj]; rfl)
      have e : (⟨b, off, none⟩ : Addr).add j = ⟨b, off + j, none⟩ := by unfold Addr.add; split <;> simp_all
      rw [e] at this
      rw [this]; simp [List.getD, hj]
theorem Row.place {w : World} {base : Nat} {v : Value} {l : List Int} (h : Row w base v l) (h0 : 0 < l.length) : ∃ g cap, v = .slice (some ⟨g, 0, none⟩) l.length cap ∧ base ≤ g ∧ g < w.heap.size ∧ l.length ≤ cap ∧ ∀ (j : Nat), j < l.length → w.cell? ⟨g, j, none⟩ = some (.int .u8 (l.getD j 0)) ∧ w.frozen? ⟨g, j, none⟩ = false := by
  rcases h.2 with ⟨rfl, h1⟩ | ⟨g, cap, cur, rfl, hg, hh, hc, hm, hs, ht⟩
  · omega
  · refine ⟨g, cap, rfl, hg, (Array.getElem?_eq_some_iff.1 hh).1, hc, fun j hj => ⟨?_, h.frozenAt j⟩⟩
    rw [h.cellAt j (by omega), bcs_get, List.getElem?_eq_getElem hj]
    simp [List.getD, hj]
theorem Row.set {w : World} {base g cap : Nat} {l : List Int} (h : Row w base (.slice (some ⟨g, 0, none⟩) l.length cap) l) (j : Nat) (z : Int) : Row (w.setCell ⟨g, j, none⟩ (.int .u8 z)) base (.slice (some ⟨g, 0, none⟩) l.length cap) (l.set j z) := by
  have := h.stored j (.int .u8 z)
  unfold Row
  rw [List.length_set]
  have e : bcs (l.set j z) = (bcs l).set j (.int .u8 z) := by simp [bcs, List.map_set]
  rw [e]
  exact this.1
/-- The exclusive or of two bytes, as the machine has it. -/
def bx (x y : Int) : Int := bits BinOp.xor .u8 x y
/-- A list of bytes with the first i masks laid on it from k on. -/
def xorTo (l : List Int) (k : Nat) (ms : List Int) : Nat → List Int
  | 0 => l
  | i + 1 => (xorTo l k ms i).set (k + i) (bx ((xorTo l k ms i).getD (k + i) 0) (ms.getD i 0))
theorem xorTo_length (l : List Int) (k : Nat) (ms : List Int) (i : Nat) : (xorTo l k ms i).length = l.length := by
  induction i with
  | zero => rfl
  | succ i ih => rw [xorTo, List.length_set, ih]
/-- Burst, plainly. -/
def burstS (l : List Int) (k : Int) (ms : List Int) : List Int × Int :=
  if 200000 < l.length then ([], 4) else if 4 < ms.length ∨ k < 0 ∨ (l.length : Int) < k ∨ (l.length : Int) - k < ms.length then ([], 2) else (xorTo l k.toNat ms ms.length, 0)
set_option maxRecDepth 100000 in
set_option maxHeartbeats 400000 in
theorem ref42_Burst_yes (p q : Option Addr) (cap cap' : Nat) (l ms : List Int) (k : Nat) (w : World) (hl : Byt w p cap l) (hm : Byt w q cap' ms) (h1 : l.length ≤ 200000) (h2 : ms.length ≤ 4) (h3 : k + ms.length ≤ l.length) :
    Calls Try.prog 14 #[.slice p l.length cap, .int .i64 k, .slice q ms.length cap'] w (Gives (xorTo l k ms ms.length) 0 w) := by
  have b1 := hl.le
  have b2 := hm.le
  have t1 : decide ((200000 : Int) < (l.length : Int)) = false := by simp; omega
  have t2 : decide ((4 : Int) < (ms.length : Int)) = false := by simp; omega
  have t3 : decide ((k : Int) < 0) = false := by simp
  have t4 : decide (l.length < k) = false := by simp; omega
  have t5 : decide ((l.length : Int) - (k : Int) < (ms.length : Int)) = false := by simp; omega
  have HE := Lib.hid (empty_row w)
  have HB := Lib.hid (hl.grow ((Below.refl _ _).alloc' (.cells #[] 5)))
  have HM := Lib.hid hm
  clear hl hm
  go_enter Try.func14, Try.ntmps14
  go_wp2_with (at_builtin; refine append_byt _ rfl _ _ rfl w.heap.size _ ([]) rfl p cap (l) _ rfl rfl HE.out HB.out ?c1 ?c2 ?_)
  case c1 => simp; omega
  case c2 => simp
  intro v1 w1 hown hgrow
  have G1 := (((Below.refl w.heap.size w).alloc' _).grown hgrow (by simp) (by simp [Value.ownBlock]))
  have GG := Lib.hid G1
  have HO := Lib.hid (show Row w1 w.heap.size v1 l from hown)
  clear hown hgrow G1
  by_cases hz : ms.length = 0
  · have e : ms = [] := List.length_eq_zero_iff.1 hz
    subst e
    clear hz
    go_wp2_with fail
    refine wp_loop_rounds 1 ?_
    rw [rounds_succ]
    go_wp2_with fail
    go_ret2
    exact .mk HO.out GG.out
  · obtain ⟨g, gc, rfl, hgb, hgl, hgc, _⟩ := HO.out.place (by omega)
    obtain ⟨mb, mo, rfl, hmb, hmcell⟩ := HM.out.place (by omega)
    have HMC := Lib.hid hmcell
    clear hmcell
    go_wp2_with fail
    go_loopw [9] (fun i wr => ∃ n : Nat, n ≤ ms.length ∧ i = .int .i64 n ∧ Grow w wr ∧ Row wr w.heap.size (.slice (some ⟨g, 0, none⟩) l.length gc) (xorTo l k ms n)) (fun i _ => ms.length - (intOf i).toNat)
    case atStart => exact ⟨0, Nat.zero_le _, rfl, GG.out, HO.out⟩
    case round =>
      obtain ⟨n, hn, rfl, hbl, hrow⟩ := hrel
      by_cases hlt : n < ms.length
      · have hxl := xorTo_length l k ms n
        obtain ⟨g', gc', e, _, hgl', _, hcell⟩ := hrow.place (by omega)
        simp only [Value.slice.injEq, Option.some.injEq, Addr.mk.injEq, and_true] at e
        obtain ⟨rfl, _, rfl⟩ := e
        obtain ⟨c1, c2⟩ := hcell (k + n) (by omega)
        have c3 := hbl.keep (HMC.out n hlt)
        have HR := Lib.hid hrow
        obtain ⟨xv, hxv⟩ : ∃ xv, xv = (xorTo l k ms n).getD (k + n) 0 := ⟨_, rfl⟩
        obtain ⟨yv, hyv⟩ : ∃ yv, yv = ms.getD n 0 := ⟨_, rfl⟩
        rw [← hxv] at c1
        rw [← hyv] at c3
        have HSU := Lib.hid (show xorTo l k ms (n + 1) = (xorTo l k ms n).set (k + n) (bits BinOp.xor .u8 xv yv) by rw [xorTo, ← hxv, ← hyv]; rfl)
        have HXL := Lib.hid hxl
        clear hcell hrow hxv hyv hxl
        go_wp2_with fail
        have K1 : ∀ d : Later wr, d.w'.cell? ⟨g, k + n, none⟩ = some (.int .u8 xv) := fun d => d.h.keep c1
        have K3 : ∀ d : Later wr, d.w'.cell? ⟨mb, mo + n, none⟩ = some (.int .u8 yv) := fun d => d.h.keep c3
        refine wp_region_later_tail 12 (by kernel_rfl) (by kernel_rfl) ?_
        simp only [List.take_succ_cons, List.take_zero, List.drop_succ_cons, List.drop_zero]
        repeat (go_big_quiet_step (fail))
        refine wpQuiet_nil ?_
        rintro _ ⟨d, rfl⟩
        have q1 := K1 d
        have q2 : d.w'.frozen? ⟨g, k + n, none⟩ = false := by rw [d.h.frozen (p := ⟨g, k + n, none⟩) hgl']; exact c2
        clear K1 K3
        go_wp2_with fail
        refine ⟨⟨n + 1, by omega, by go_num, (hbl.then d.h).setCell (by simp; omega) _, ?_⟩, by simp [intOf]; omega⟩
        rw [HSU.out]
        have e := HR.out.grow d.h
        rw [← HXL.out] at e
        have := e.set (k + n) (bits BinOp.xor .u8 xv yv)
        rwa [HXL.out] at this
      · obtain rfl : n = ms.length := by omega
        have HR := Lib.hid hrow
        clear hrow
        go_wp2_with fail
        go_ret2
        exact .mk HR.out hbl
set_option maxRecDepth 100000 in
set_option maxHeartbeats 400000 in
theorem ref42_Burst (p q : Option Addr) (cap cap' : Nat) (l ms : List Int) (k : Int) (w : World) (hl : Byt w p cap l) (hm : Byt w q cap' ms) (hk : -9223372036854775808 ≤ k ∧ k ≤ 9223372036854775807) :
    Calls Try.prog 14 #[.slice p l.length cap, .int .i64 k, .slice q ms.length cap'] w (Gives (burstS l k ms).1 (burstS l k ms).2 w) := by
  have b1 := hl.le
  have b2 := hm.le
  by_cases h1 : 200000 < l.length
  · rw [burstS, if_pos h1]
    clear hl hm
    go_enter Try.func14, Try.ntmps14
    go_wp2_with fail
    go_ret2
    exact .nil (Below.refl _ _)
  · by_cases h2 : 4 < ms.length ∨ k < 0 ∨ (l.length : Int) < k ∨ (l.length : Int) - k < ms.length
    · rw [burstS, if_neg h1, if_pos h2]
      clear hl hm
      by_cases g1 : 4 < ms.length
      · go_enter Try.func14, Try.ntmps14
        go_wp2_with fail
        go_ret2
        exact .nil (Below.refl _ _)
      · by_cases g2 : k < 0
        · go_enter Try.func14, Try.ntmps14
          go_wp2_with fail
          go_ret2
          exact .nil (Below.refl _ _)
        · by_cases g3 : (l.length : Int) < k
          · go_enter Try.func14, Try.ntmps14
            go_wp2_with fail
            go_ret2
            exact .nil (Below.refl _ _)
          · have g4 : (l.length : Int) - k < ms.length := by omega
            clear h2
            go_enter Try.func14, Try.ntmps14
            go_wp2_with fail
            go_ret2
            exact .nil (Below.refl _ _)
    · rw [burstS, if_neg h1, if_neg h2]
      obtain ⟨m, rfl⟩ := Int.eq_ofNat_of_zero_le (show 0 ≤ k by omega)
      exact ref42_Burst_yes p q cap cap' l ms m w hl hm (by omega) (by omega) (by omega)
end Go.Proofs.Ytflbiiflbehleaa
