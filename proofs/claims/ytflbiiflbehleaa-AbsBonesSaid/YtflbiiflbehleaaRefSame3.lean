import Derived.Test.YtflbiiflbehleaaRefSame2b
namespace Go.Proofs.Ytflbiiflbehleaa
open Go.RowKit
set_option maxRecDepth 100000 in
set_option maxHeartbeats 400000 in
theorem ref34_Same (a b : St) (w : World) (ha : a.In w) (hb : b.In w) :
    Calls Try.prog 9 #[a.agg, b.agg] w fun e w' => e = .returned (.bool (St.same a b)) ∧ Grow w w' := by
  have Ha := Lib.hid ha
  have Hb := Lib.hid hb
  clear ha hb
  by_cases h1 : a.out = b.out ∧ a.failing = b.failing ∧ a.steps = b.steps ∧ a.rs.length = b.rs.length
  · have hsame : St.same a b = allSame Ro.same a.rs b.rs := by
      simp [St.same, h1]
    rw [hsame]
    obtain ⟨h1, h2, h3, h5⟩ := h1
    have t1 : (a.out != b.out) = false := by simp [h1]
    have t2 : (a.failing != b.failing) = false := by simp [h2]
    have t3 : (a.steps != b.steps) = false := by simp [h3]
    have t4 : ((a.rs.length : Int) != (b.rs.length : Int)) = false := by simp [h5]
    have H5 := Lib.hid h5
    clear h1 h2 h3 h5 hsame
    go_enter Try.func9, Try.ntmps9
    go_wp2_with fail
    go_loopw [5] (fun i wr => ∃ k : Nat, k ≤ a.rs.length ∧ i = .int .i64 k ∧ Grow w wr ∧ wr.cell? ⟨w.heap.size, 3, none⟩ = some (.slice a.rsP a.rs.length a.rsC) ∧ wr.cell? ⟨w.heap.size + 1, 3, none⟩ = some (.slice b.rsP b.rs.length b.rsC) ∧ Upto Ro.same k a.rs b.rs) (fun i _ => a.rs.length - (intOf i).toNat)
    case atStart => exact ⟨0, Nat.zero_le _, rfl, ((Below.refl _ _).alloc' _).alloc' _, by go_simp, by go_simp, Upto.zero _ _ _⟩
    case round =>
      obtain ⟨k, hk, rfl, hbl, c1, c2, hup⟩ := hrel
      have m1 := Ha.out.rs.1.bound
      have m2 := Hb.out.rs.1.bound
      by_cases hlt : k < a.rs.length
      · have hltb : k < b.rs.length := by rw [← H5.out]; exact hlt
        obtain ⟨xa, hxa⟩ : ∃ x, a.rs[k]? = some x := ⟨_, List.getElem?_eq_getElem hlt⟩
        obtain ⟨xb, hxb⟩ : ∃ x, b.rs[k]? = some x := ⟨_, List.getElem?_eq_getElem hltb⟩
        obtain ⟨ba, oa, hpa, hba, hea⟩ := Ha.out.rs.1.elem hxa
        obtain ⟨bb, ob, hpb, hbb, heb⟩ := Hb.out.rs.1.elem hxb
        obtain ⟨a0, a1, a2, a3, a4⟩ := (hea.grow hbl).ro
        obtain ⟨b0, b1, b2, b3, b4⟩ := (heb.grow hbl).ro
        have d1 := c1
        have d2 := c2
        rw [hpa] at d1
        rw [hpb] at d2
        have C1 := Lib.hid c1
        have C2 := Lib.hid c2
        have Hxa := Lib.hid hxa
        have Hxb := Lib.hid hxb
        clear hea heb hxa hxb c1 c2 hpa hpb
        have HC := Lib.hid (show ∀ w1, Grow wr w1 → Calls Try.prog 43 #[xa.agg, xb.agg] w1 fun e w' => e = .returned (.bool (Ro.same xa xb)) ∧ Grow w1 w' from fun w1 g =>
          ref34_SameRoutine xa xb w1 ((Ha.out.rs.2 xa (getElem?_mem' Hxa.out)).grow (hbl.then g)) ((Hb.out.rs.2 xb (getElem?_mem' Hxb.out)).grow (hbl.then g)))
        go_wp2_with fail
        go_still_tail 10, (by kernel_rfl)
        change wpList _ _ _ _ _ wr.drew
        cases hs : Ro.same xa xb
        · have Hs := Lib.hid hs
          clear hs
          go_wp2_with (go_at_call 43; refine (HC.out _ (Below.refl _ _).drew).mono ?_; rintro e w' ⟨rfl, hg⟩; rw [Hs.out])
          go_ret
          exact ⟨by rw [allSame_not Hxa.out Hxb.out Hs.out]; rfl, hbl.then (undrew hg)⟩
        · have Hs := Lib.hid hs
          clear hs
          go_wp2_with (go_at_call 43; refine (HC.out _ (Below.refl _ _).drew).mono ?_; rintro e w' ⟨rfl, hg⟩; rw [Hs.out])
          go_roundw
          case rel => exact ⟨k + 1, by omega, by go_num, hbl.then (undrew hg), (undrew hg).keep C1.out, (undrew hg).keep C2.out, hup.succ Hxa.out Hxb.out Hs.out⟩
          case measure => simp [intOf]; omega
      · obtain rfl : k = a.rs.length := by omega
        have HU := Lib.hid hup
        clear hup
        go_wp2_with fail
        go_ret
        exact ⟨by rw [HU.out.all H5.out]; rfl, hbl⟩
  · have hs : St.same a b = false := by
      rw [Bool.eq_false_iff]
      intro hh
      simp only [St.same, Bool.and_eq_true, beq_iff_eq] at hh
      apply h1
      refine ⟨hh.1.1.1, hh.1.1.2, hh.1.2, ?_⟩
      refine Classical.byContradiction fun hne => ?_
      rw [allSame_len hne] at hh; simp at hh
    rw [hs]
    have H := Lib.hid h1
    clear h1 hs
    go_enter Try.func9, Try.ntmps9
    go_wp2_with fail
    all_goals first
      | (go_ret; exact ⟨rfl, ((Below.refl _ _).alloc' _).alloc' _⟩)
      | exact absurd ⟨by assumption, by assumption, by assumption, bne_len (by assumption)⟩ H.out
end Go.Proofs.Ytflbiiflbehleaa
