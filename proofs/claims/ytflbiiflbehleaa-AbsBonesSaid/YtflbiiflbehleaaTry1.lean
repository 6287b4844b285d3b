import Derived.Test.YtflbiiflbehleaaData
import Derived.Test.YtflbiiflbehleaaRows
import Derived.Deep.QuietTactic
import Derived.StillTailTactics
import Derived.BigQuiet
namespace Go.Proofs.Ytflbiiflbehleaa
open Go.RowKit
set_option maxRecDepth 100000 in
set_option maxHeartbeats 400000 in
theorem ref15_Same (N : Nat) : ∀ (a b : V) (w : World), a.size ≤ N → a.In w → b.In w →
    Calls Try.prog 65 #[a.agg, b.agg] w fun e w' => e = .returned (.bool (V.same a b)) ∧ Grow w w' := by
  induction N with
  | zero => intro a b w hN; cases a; simp [V.size] at hN
  | succ N ih =>
  intro a b w hN ha hb
  obtain ⟨ka, na, ta, pa, capa, la, ca⟩ := a
  obtain ⟨kb, nb, tb, pb, capb, lb, cb⟩ := b
  cases ha with | mk hla hsa =>
  cases hb with | mk hlb hsb =>
  simp only [V.agg, V.k, V.n, V.t, V.p, V.cap, V.l, V.c]
  have IH := Lib.hid ih
  have HN := Lib.hid hN
  clear ih hN
  by_cases h1 : ka = kb ∧ na = nb ∧ ta = tb ∧ ca = cb ∧ la.length = lb.length
  · obtain ⟨rfl, rfl, rfl, rfl, h5⟩ := h1
    have hsame : V.same (.mk ka na ta pa capa la ca) (.mk ka na ta pb capb lb ca) = allSame V.same la lb := by
      simp [V.same, V.sames_eq]
    rw [hsame]
    have g5 : ((la.length : Int) != (lb.length : Int)) = false := by simp [h5]
    have H5 := Lib.hid h5
    have Hsa := Lib.hid hsa
    have Hsb := Lib.hid hsb
    clear h5 hsa hsb hsame
    go_enter Try.func65, Try.ntmps65
    go_wp2_with fail
    go_loopw [5] (fun i wr => ∃ k : Nat, k ≤ la.length ∧ i = .int .i64 k ∧ Grow w wr ∧ wr.cell? ⟨w.heap.size, 3, none⟩ = some (.slice pa la.length capa) ∧ wr.cell? ⟨w.heap.size + 1, 3, none⟩ = some (.slice pb lb.length capb) ∧ Upto V.same k la lb) (fun i _ => la.length - (intOf i).toNat)
    case atStart => exact ⟨0, Nat.zero_le _, rfl, ((Below.refl _ _).alloc' _).alloc' _, by go_simp, by go_simp, Upto.zero _ _ _⟩
    case round =>
      obtain ⟨k, hk, rfl, hbl, hc1, hc2, hup⟩ := hrel
      by_cases hlt : k < la.length
      · have hltb : k < lb.length := by rw [← H5.out]; exact hlt
        have hm1 := hla.bound
        have hm2 := hlb.bound
        obtain ⟨xa, hxa⟩ : ∃ x, la[k]? = some x := ⟨_, List.getElem?_eq_getElem hlt⟩
        obtain ⟨xb, hxb⟩ : ∃ x, lb[k]? = some x := ⟨_, List.getElem?_eq_getElem hltb⟩
        obtain ⟨ba, oa, rfl, hba, hea⟩ := hla.elem hxa
        obtain ⟨bb, ob, rfl, hbb, heb⟩ := hlb.elem hxb
        obtain ⟨a1, a2, a3, a4, a5⟩ := (hea.grow hbl).v
        obtain ⟨b1, b2, b3, b4, b5⟩ := (heb.grow hbl).v
        have Hxa := Lib.hid hxa
        have Hxb := Lib.hid hxb
        have Ha := Lib.hid hla
        have Hb := Lib.hid hlb
        clear hla hlb hea heb hxa hxb
        have C : ∀ w1, Grow wr w1 → Calls Try.prog 65 #[xa.agg, xb.agg] w1 fun e w' => e = .returned (.bool (V.same xa xb)) ∧ Grow w1 w' := fun w1 g =>
          IH.out xa xb w1 (by have := V.size_mem (getElem?_mem' Hxa.out); have := HN.out; simp only [V.size] at this; omega) ((Hsa.out xa (getElem?_mem' Hxa.out)).grow (hbl.then g)) ((Hsb.out xb (getElem?_mem' Hxb.out)).grow (hbl.then g))
        have HC := Lib.hid C
        clear C
        go_wp2_with fail
        go_still_tail 10, (by kernel_rfl)
        change wpList _ _ _ _ _ wr.drew
        cases hs : V.same xa xb
        · have Hs := Lib.hid hs
          clear hs
          go_wp2_with (go_at_call 65; refine (HC.out _ (Below.refl _ _).drew).mono ?_; rintro e w' ⟨rfl, hg⟩; rw [Hs.out])
          go_ret
          exact ⟨by rw [allSame_not Hxa.out Hxb.out Hs.out]; rfl, hbl.then (undrew hg)⟩
        · have Hs := Lib.hid hs
          clear hs
          go_wp2_with (go_at_call 65; refine (HC.out _ (Below.refl _ _).drew).mono ?_; rintro e w' ⟨rfl, hg⟩; rw [Hs.out])
          go_roundw
          case rel => exact ⟨k + 1, by omega, by go_num, hbl.then (undrew hg), (undrew hg).keep hc1, (undrew hg).keep hc2, hup.succ Hxa.out Hxb.out Hs.out⟩
          case measure => simp [intOf]; omega
      · obtain rfl : k = la.length := by omega
        have hm1 := hla.bound
        have HU := Lib.hid hup
        clear hup hla hlb
        go_wp2_with fail
        go_ret
        exact ⟨by rw [HU.out.all H5.out]; rfl, hbl⟩
  · have hsame : V.same (.mk ka na ta pa capa la ca) (.mk kb nb tb pb capb lb cb) = false := by
      rw [Bool.eq_false_iff]
      intro h
      simp only [V.same, V.sames_eq, Bool.and_eq_true, beq_iff_eq] at h
      apply h1
      refine ⟨h.1.1.1.1, h.1.1.1.2, ?_, h.1.2, Classical.byContradiction fun hne => ?_⟩
      · exact bytes_ext h.1.1.2
      · rw [allSame_len hne] at h; simp at h
    rw [hsame]
    have H1 := Lib.hid h1
    clear h1 hsame
    go_enter Try.func65, Try.ntmps65
    go_wp2_with fail
    all_goals first
      | (go_ret; exact ⟨rfl, ((Below.refl _ _).alloc' _).alloc' _⟩)
      | exact absurd ⟨by assumption, by assumption, bytes_ext (by assumption), by assumption, bne_len (by assumption)⟩ H1.out
end Go.Proofs.Ytflbiiflbehleaa
