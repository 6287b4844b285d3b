import Derived.Test.YtflbiiflbehleaaEq
import Derived.Test.YtflbiiflbehleaaTry1
import Derived.WalkSmall
namespace Go.Proofs.Ytflbiiflbehleaa
open Go.RowKit
theorem ref15_same (a b : V) (w : World) (ha : a.In w) (hb : b.In w) :
    Calls Try.prog 65 #[a.agg, b.agg] w fun e w' => e = .returned (.bool (V.same a b)) ∧ Grow w w' :=
  ref15_Same a.size a b w (Nat.le_refl _) ha hb
set_option maxRecDepth 100000 in
set_option maxHeartbeats 400000 in
theorem ref32_SameLocals (pa pb : Option Addr) (capa capb : Nat) (la lb : List Loc) (w : World) (hla : Lies w pa capa 6 Loc.cells la) (hlb : Lies w pb capb 6 Loc.cells lb)
    (hsa : ∀ y, y ∈ la → Loc.In w y) (hsb : ∀ y, y ∈ lb → Loc.In w y) :
    Calls Try.prog 64 #[.slice pa la.length capa, .slice pb lb.length capb] w fun e w' => e = .returned (.bool (allSame Loc.same la lb)) ∧ Grow w w' := by
  have Hsa := Lib.hid hsa
  have Hsb := Lib.hid hsb
  clear hsa hsb
  have hm1 := hla.bound
  have hm2 := hlb.bound
  have Ha := Lib.hid hla
  have Hb := Lib.hid hlb
  clear hla hlb
  by_cases h5 : la.length = lb.length
  · have g5 : ((la.length : Int) != (lb.length : Int)) = false := by simp [h5]
    have H5 := Lib.hid h5
    clear h5
    go_enter Try.func64, Try.ntmps64
    go_wp2_with fail
    go_loopw [5] (fun i wr => ∃ k : Nat, k ≤ la.length ∧ i = .int .i64 k ∧ Grow w wr ∧ Upto Loc.same k la lb) (fun i _ => la.length - (intOf i).toNat)
    case atStart => exact ⟨0, Nat.zero_le _, rfl, Below.refl _ _, Upto.zero _ _ _⟩
    case round =>
      obtain ⟨k, hk, rfl, hbl, hup⟩ := hrel
      by_cases hlt : k < la.length
      · have hltb : k < lb.length := by rw [← H5.out]; exact hlt
        obtain ⟨xa, hxa⟩ : ∃ x, la[k]? = some x := ⟨_, List.getElem?_eq_getElem hlt⟩
        obtain ⟨xb, hxb⟩ : ∃ x, lb[k]? = some x := ⟨_, List.getElem?_eq_getElem hltb⟩
        obtain ⟨ba, oa, rfl, hba, hea⟩ := Ha.out.elem hxa
        obtain ⟨bb, ob, rfl, hbb, heb⟩ := Hb.out.elem hxb
        obtain ⟨a0, a1, a2, a3, a4, a5⟩ := (hea.grow hbl).loc
        obtain ⟨b0, b1, b2, b3, b4, b5⟩ := (heb.grow hbl).loc
        have Hxa := Lib.hid hxa
        have Hxb := Lib.hid hxb
        clear hea heb hxa hxb
        have C : ∀ w1, Grow wr w1 → Calls Try.prog 65 #[xa.v.agg, xb.v.agg] w1 fun e w' => e = .returned (.bool (V.same xa.v xb.v)) ∧ Grow w1 w' := fun w1 g =>
          ref15_same _ _ w1 ((Hsa.out xa (getElem?_mem' Hxa.out)).v.grow (hbl.then g)) ((Hsb.out xb (getElem?_mem' Hxb.out)).v.grow (hbl.then g))
        have HC := Lib.hid C
        clear C
        by_cases hs : xa.slot = xb.slot
        · have g6 : (xa.slot != xb.slot) = false := by simp [hs]
          have HS := Lib.hid hs
          clear hs
          go_wp2_with fail
          go_still_tail 22, (by kernel_rfl)
          change wpList _ _ _ _ _ wr.drew
          cases hv : V.same xa.v xb.v
          · have Hv := Lib.hid hv
            clear hv
            go_wp2_with (go_at_call 65; refine (HC.out _ (Below.refl _ _).drew).mono ?_; rintro e w' ⟨rfl, hg⟩; rw [Hv.out])
            go_ret
            exact ⟨by rw [allSame_not Hxa.out Hxb.out (by simp [Loc.same, Hv.out])]; rfl, hbl.then (undrew hg)⟩
          · have Hv := Lib.hid hv
            clear hv
            go_wp2_with (go_at_call 65; refine (HC.out _ (Below.refl _ _).drew).mono ?_; rintro e w' ⟨rfl, hg⟩; rw [Hv.out])
            go_roundw
            case rel => exact ⟨k + 1, by omega, by go_num, hbl.then (undrew hg), hup.succ Hxa.out Hxb.out (by simp [Loc.same, Hv.out, HS.out])⟩
            case measure => simp [intOf]; omega
        · have g6 : (xa.slot != xb.slot) = true := by simp [hs]
          have HS := Lib.hid hs
          clear hs
          go_wp2_with fail
          go_quiet (fail)
          go_wp2_with fail
          go_ret
          exact ⟨by rw [allSame_not Hxa.out Hxb.out (by simp [Loc.same, HS.out])]; rfl, below_drewN hbl _⟩
      · obtain rfl : k = la.length := by omega
        have HU := Lib.hid hup
        clear hup
        go_wp2_with fail
        go_ret
        exact ⟨by rw [HU.out.all H5.out]; rfl, hbl⟩
  · rw [allSame_len h5]
    have g5 : ((la.length : Int) != (lb.length : Int)) = true := by rw [bne_iff_ne]; omega
    clear h5
    go_enter Try.func64, Try.ntmps64
    go_wp2_with fail
    go_ret
    exact ⟨rfl, Below.refl _ _⟩
end Go.Proofs.Ytflbiiflbehleaa
