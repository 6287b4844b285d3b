import Derived.Test.YtflbiiflbehleaaData
import Derived.Test.YtflbiiflbehleaaRows
import Derived.Deep.QuietTactic
import Derived.StillTailTactics
import Derived.BigQuiet
namespace Go.Proofs.Ytflbiiflbehleaa
open Go.RowKit
set_option maxRecDepth 100000 in
set_option maxHeartbeats 400000 in
theorem equalV (fn : FuncId) (hc : ∀ (xs : Array Value) (w : World), (callFunc fn xs).run Try.prog w = .ok (.enter fn xs) w) (same : V → V → Bool) (pa pb : Option Addr) (capa capb : Nat) (la lb : List V) (w : World) (hla : Lies w pa capa 5 V.cells la) (hlb : Lies w pb capb 5 V.cells lb)
    (hf : ∀ (i : Nat) (x y : V) (w' : World), la[i]? = some x → lb[i]? = some y → Grow w w' → Calls Try.prog fn #[x.agg, y.agg] w' fun e w'' => e = .returned (.bool (same x y)) ∧ Grow w' w'') :
    Calls Try.prog 76 #[.slice pa la.length capa, .slice pb lb.length capb, .func (.func fn) #[] #[]] w fun e w' => e = .returned (.bool (allSame same la lb)) ∧ Grow w w' := by
  have HF := Lib.hid hf
  clear hf
  by_cases h5 : la.length = lb.length
  · have g5 : ((la.length : Int) != (lb.length : Int)) = false := by simp [h5]
    have H5 := Lib.hid h5
    clear h5
    have hm1 := hla.bound
    have hm2 := hlb.bound
    have Ha := Lib.hid hla
    have Hb := Lib.hid hlb
    clear hla hlb
    go_enter Try.func76, Try.ntmps76
    go_wp2_with fail
    go_loopw [17] (fun i wr => ∃ k : Nat, k ≤ la.length ∧ i = .int .i64 k ∧ Grow w wr ∧ Upto same k la lb) (fun i _ => la.length - (intOf i).toNat)
    case atStart => exact ⟨0, Nat.zero_le _, rfl, Below.refl _ _, Upto.zero _ _ _⟩
    case round =>
      obtain ⟨k, hk, rfl, hbl, hup⟩ := hrel
      by_cases hlt : k < la.length
      · have hltb : k < lb.length := by rw [← H5.out]; exact hlt
        obtain ⟨xa, hxa⟩ : ∃ x, la[k]? = some x := ⟨_, List.getElem?_eq_getElem hlt⟩
        obtain ⟨xb, hxb⟩ : ∃ x, lb[k]? = some x := ⟨_, List.getElem?_eq_getElem hltb⟩
        obtain ⟨ba, oa, rfl, hba, hea⟩ := Ha.out.elem hxa
        obtain ⟨bb, ob, rfl, hbb, heb⟩ := Hb.out.elem hxb
        obtain ⟨a0, a1, a2, a3, a4⟩ := (hea.grow hbl).v
        obtain ⟨b0, b1, b2, b3, b4⟩ := (heb.grow hbl).v
        have hba' : ba < wr.heap.size := Nat.lt_of_lt_of_le hba hbl.size
        have hbb' : bb < wr.heap.size := Nat.lt_of_lt_of_le hbb hbl.size
        have Hxa := Lib.hid hxa
        have Hxb := Lib.hid hxb
        clear hea heb hxa hxb
        go_wp2_with fail
        refine (HF.out k xa xb _ Hxa.out Hxb.out ((hbl.alloc' _).alloc' _)).mono ?_
        rintro e w' ⟨rfl, hg⟩
        have hg' : Grow wr w' := (((Below.refl _ _).alloc' _).alloc' _).then hg
        clear hg a0 a1 a2 a3 a4 b0 b1 b2 b3 b4
        cases hs : same xa xb
        · have Hs := Lib.hid hs
          clear hs
          go_wp2_with fail
          go_ret
          exact ⟨by rw [allSame_not Hxa.out Hxb.out Hs.out]; rfl, hbl.then hg'⟩
        · have Hs := Lib.hid hs
          clear hs
          go_wp2_with fail
          go_roundw
          case rel => exact ⟨k + 1, by omega, by go_num, hbl.then hg', hup.succ Hxa.out Hxb.out Hs.out⟩
          case measure => simp [intOf]; omega
      · obtain rfl : k = la.length := by omega
        have HU := Lib.hid hup
        clear hup
        go_wp2_with fail
        go_ret
        exact ⟨by rw [HU.out.all H5.out]; rfl, hbl⟩
  · rw [allSame_len h5]
    have g5 : ((la.length : Int) != (lb.length : Int)) = true := by rw [bne_iff_ne]; omega
    clear h5
    go_enter Try.func76, Try.ntmps76
    go_wp2_with fail
    go_ret
    exact ⟨rfl, Below.refl _ _⟩
set_option maxRecDepth 100000 in
set_option maxHeartbeats 400000 in
theorem equalLoc (fn : FuncId) (hc : ∀ (xs : Array Value) (w : World), (callFunc fn xs).run Try.prog w = .ok (.enter fn xs) w) (same : Loc → Loc → Bool) (pa pb : Option Addr) (capa capb : Nat) (la lb : List Loc) (w : World) (hla : Lies w pa capa 6 Loc.cells la) (hlb : Lies w pb capb 6 Loc.cells lb)
    (hf : ∀ (i : Nat) (x y : Loc) (w' : World), la[i]? = some x → lb[i]? = some y → Grow w w' → Calls Try.prog fn #[x.agg, y.agg] w' fun e w'' => e = .returned (.bool (same x y)) ∧ Grow w' w'') :
    Calls Try.prog 61 #[.slice pa la.length capa, .slice pb lb.length capb, .func (.func fn) #[] #[]] w fun e w' => e = .returned (.bool (allSame same la lb)) ∧ Grow w w' := by
  have HF := Lib.hid hf
  clear hf
  by_cases h5 : la.length = lb.length
  · have g5 : ((la.length : Int) != (lb.length : Int)) = false := by simp [h5]
    have H5 := Lib.hid h5
    clear h5
    have hm1 := hla.bound
    have hm2 := hlb.bound
    have Ha := Lib.hid hla
    have Hb := Lib.hid hlb
    clear hla hlb
    go_enter Try.func61, Try.ntmps61
    go_wp2_with fail
    go_loopw [17] (fun i wr => ∃ k : Nat, k ≤ la.length ∧ i = .int .i64 k ∧ Grow w wr ∧ Upto same k la lb) (fun i _ => la.length - (intOf i).toNat)
    case atStart => exact ⟨0, Nat.zero_le _, rfl, Below.refl _ _, Upto.zero _ _ _⟩
    case round =>
      obtain ⟨k, hk, rfl, hbl, hup⟩ := hrel
      by_cases hlt : k < la.length
      · have hltb : k < lb.length := by rw [← H5.out]; exact hlt
        obtain ⟨xa, hxa⟩ : ∃ x, la[k]? = some x := ⟨_, List.getElem?_eq_getElem hlt⟩
        obtain ⟨xb, hxb⟩ : ∃ x, lb[k]? = some x := ⟨_, List.getElem?_eq_getElem hltb⟩
        obtain ⟨ba, oa, rfl, hba, hea⟩ := Ha.out.elem hxa
        obtain ⟨bb, ob, rfl, hbb, heb⟩ := Hb.out.elem hxb
        obtain ⟨a0, a1, a2, a3, a4, a5⟩ := (hea.grow hbl).loc
        obtain ⟨b0, b1, b2, b3, b4, b5⟩ := (heb.grow hbl).loc
        have hba' : ba < wr.heap.size := Nat.lt_of_lt_of_le hba hbl.size
        have hbb' : bb < wr.heap.size := Nat.lt_of_lt_of_le hbb hbl.size
        have Hxa := Lib.hid hxa
        have Hxb := Lib.hid hxb
        clear hea heb hxa hxb
        go_wp2_with fail
        refine (HF.out k xa xb _ Hxa.out Hxb.out ((hbl.alloc' _).alloc' _)).mono ?_
        rintro e w' ⟨rfl, hg⟩
        have hg' : Grow wr w' := (((Below.refl _ _).alloc' _).alloc' _).then hg
        clear hg a0 a1 a2 a3 a4 a5 b0 b1 b2 b3 b4 b5
        cases hs : same xa xb
        · have Hs := Lib.hid hs
          clear hs
          go_wp2_with fail
          go_ret
          exact ⟨by rw [allSame_not Hxa.out Hxb.out Hs.out]; rfl, hbl.then hg'⟩
        · have Hs := Lib.hid hs
          clear hs
          go_wp2_with fail
          go_roundw
          case rel => exact ⟨k + 1, by omega, by go_num, hbl.then hg', hup.succ Hxa.out Hxb.out Hs.out⟩
          case measure => simp [intOf]; omega
      · obtain rfl : k = la.length := by omega
        have HU := Lib.hid hup
        clear hup
        go_wp2_with fail
        go_ret
        exact ⟨by rw [HU.out.all H5.out]; rfl, hbl⟩
  · rw [allSame_len h5]
    have g5 : ((la.length : Int) != (lb.length : Int)) = true := by rw [bne_iff_ne]; omega
    clear h5
    go_enter Try.func61, Try.ntmps61
    go_wp2_with fail
    go_ret
    exact ⟨rfl, Below.refl _ _⟩
set_option maxRecDepth 100000 in
set_option maxHeartbeats 400000 in
theorem equalFr (fn : FuncId) (hc : ∀ (xs : Array Value) (w : World), (callFunc fn xs).run Try.prog w = .ok (.enter fn xs) w) (same : Fr → Fr → Bool) (pa pb : Option Addr) (capa capb : Nat) (la lb : List Fr) (w : World) (hla : Lies w pa capa 4 Fr.cells la) (hlb : Lies w pb capb 4 Fr.cells lb)
    (hf : ∀ (i : Nat) (x y : Fr) (w' : World), la[i]? = some x → lb[i]? = some y → Grow w w' → Calls Try.prog fn #[x.agg, y.agg] w' fun e w'' => e = .returned (.bool (same x y)) ∧ Grow w' w'') :
    Calls Try.prog 37 #[.slice pa la.length capa, .slice pb lb.length capb, .func (.func fn) #[] #[]] w fun e w' => e = .returned (.bool (allSame same la lb)) ∧ Grow w w' := by
  have HF := Lib.hid hf
  clear hf
  by_cases h5 : la.length = lb.length
  · have g5 : ((la.length : Int) != (lb.length : Int)) = false := by simp [h5]
    have H5 := Lib.hid h5
    clear h5
    have hm1 := hla.bound
    have hm2 := hlb.bound
    have Ha := Lib.hid hla
    have Hb := Lib.hid hlb
    clear hla hlb
    go_enter Try.func37, Try.ntmps37
    go_wp2_with fail
    go_loopw [17] (fun i wr => ∃ k : Nat, k ≤ la.length ∧ i = .int .i64 k ∧ Grow w wr ∧ Upto same k la lb) (fun i _ => la.length - (intOf i).toNat)
    case atStart => exact ⟨0, Nat.zero_le _, rfl, Below.refl _ _, Upto.zero _ _ _⟩
    case round =>
      obtain ⟨k, hk, rfl, hbl, hup⟩ := hrel
      by_cases hlt : k < la.length
      · have hltb : k < lb.length := by rw [← H5.out]; exact hlt
        obtain ⟨xa, hxa⟩ : ∃ x, la[k]? = some x := ⟨_, List.getElem?_eq_getElem hlt⟩
        obtain ⟨xb, hxb⟩ : ∃ x, lb[k]? = some x := ⟨_, List.getElem?_eq_getElem hltb⟩
        obtain ⟨ba, oa, rfl, hba, hea⟩ := Ha.out.elem hxa
        obtain ⟨bb, ob, rfl, hbb, heb⟩ := Hb.out.elem hxb
        obtain ⟨a0, a1, a2, a3⟩ := (hea.grow hbl).fr
        obtain ⟨b0, b1, b2, b3⟩ := (heb.grow hbl).fr
        have hba' : ba < wr.heap.size := Nat.lt_of_lt_of_le hba hbl.size
        have hbb' : bb < wr.heap.size := Nat.lt_of_lt_of_le hbb hbl.size
        have Hxa := Lib.hid hxa
        have Hxb := Lib.hid hxb
        clear hea heb hxa hxb
        go_wp2_with fail
        refine (HF.out k xa xb _ Hxa.out Hxb.out ((hbl.alloc' _).alloc' _)).mono ?_
        rintro e w' ⟨rfl, hg⟩
        have hg' : Grow wr w' := (((Below.refl _ _).alloc' _).alloc' _).then hg
        clear hg a0 a1 a2 a3 b0 b1 b2 b3
        cases hs : same xa xb
        · have Hs := Lib.hid hs
          clear hs
          go_wp2_with fail
          go_ret
          exact ⟨by rw [allSame_not Hxa.out Hxb.out Hs.out]; rfl, hbl.then hg'⟩
        · have Hs := Lib.hid hs
          clear hs
          go_wp2_with fail
          go_roundw
          case rel => exact ⟨k + 1, by omega, by go_num, hbl.then hg', hup.succ Hxa.out Hxb.out Hs.out⟩
          case measure => simp [intOf]; omega
      · obtain rfl : k = la.length := by omega
        have HU := Lib.hid hup
        clear hup
        go_wp2_with fail
        go_ret
        exact ⟨by rw [HU.out.all H5.out]; rfl, hbl⟩
  · rw [allSame_len h5]
    have g5 : ((la.length : Int) != (lb.length : Int)) = true := by rw [bne_iff_ne]; omega
    clear h5
    go_enter Try.func37, Try.ntmps37
    go_wp2_with fail
    go_ret
    exact ⟨rfl, Below.refl _ _⟩
set_option maxRecDepth 100000 in
set_option maxHeartbeats 400000 in
theorem equalDf (fn : FuncId) (hc : ∀ (xs : Array Value) (w : World), (callFunc fn xs).run Try.prog w = .ok (.enter fn xs) w) (same : Df → Df → Bool) (pa pb : Option Addr) (capa capb : Nat) (la lb : List Df) (w : World) (hla : Lies w pa capa 8 Df.cells la) (hlb : Lies w pb capb 8 Df.cells lb)
    (hf : ∀ (i : Nat) (x y : Df) (w' : World), la[i]? = some x → lb[i]? = some y → Grow w w' → Calls Try.prog fn #[x.agg, y.agg] w' fun e w'' => e = .returned (.bool (same x y)) ∧ Grow w' w'') :
    Calls Try.prog 39 #[.slice pa la.length capa, .slice pb lb.length capb, .func (.func fn) #[] #[]] w fun e w' => e = .returned (.bool (allSame same la lb)) ∧ Grow w w' := by
  have HF := Lib.hid hf
  clear hf
  by_cases h5 : la.length = lb.length
  · have g5 : ((la.length : Int) != (lb.length : Int)) = false := by simp [h5]
    have H5 := Lib.hid h5
    clear h5
    have hm1 := hla.bound
    have hm2 := hlb.bound
    have Ha := Lib.hid hla
    have Hb := Lib.hid hlb
    clear hla hlb
    go_enter Try.func39, Try.ntmps39
    go_wp2_with fail
    go_loopw [17] (fun i wr => ∃ k : Nat, k ≤ la.length ∧ i = .int .i64 k ∧ Grow w wr ∧ Upto same k la lb) (fun i _ => la.length - (intOf i).toNat)
    case atStart => exact ⟨0, Nat.zero_le _, rfl, Below.refl _ _, Upto.zero _ _ _⟩
    case round =>
      obtain ⟨k, hk, rfl, hbl, hup⟩ := hrel
      by_cases hlt : k < la.length
      · have hltb : k < lb.length := by rw [← H5.out]; exact hlt
        obtain ⟨xa, hxa⟩ : ∃ x, la[k]? = some x := ⟨_, List.getElem?_eq_getElem hlt⟩
        obtain ⟨xb, hxb⟩ : ∃ x, lb[k]? = some x := ⟨_, List.getElem?_eq_getElem hltb⟩
        obtain ⟨ba, oa, rfl, hba, hea⟩ := Ha.out.elem hxa
        obtain ⟨bb, ob, rfl, hbb, heb⟩ := Hb.out.elem hxb
        obtain ⟨a0, a1, a2, a3, a4, a5, a6, a7⟩ := (hea.grow hbl).df
        obtain ⟨b0, b1, b2, b3, b4, b5, b6, b7⟩ := (heb.grow hbl).df
        have hba' : ba < wr.heap.size := Nat.lt_of_lt_of_le hba hbl.size
        have hbb' : bb < wr.heap.size := Nat.lt_of_lt_of_le hbb hbl.size
        have Hxa := Lib.hid hxa
        have Hxb := Lib.hid hxb
        clear hea heb hxa hxb
        go_wp2_with fail
        refine (HF.out k xa xb _ Hxa.out Hxb.out ((hbl.alloc' _).alloc' _)).mono ?_
        rintro e w' ⟨rfl, hg⟩
        have hg' : Grow wr w' := (((Below.refl _ _).alloc' _).alloc' _).then hg
        clear hg a0 a1 a2 a3 a4 a5 a6 a7 b0 b1 b2 b3 b4 b5 b6 b7
        cases hs : same xa xb
        · have Hs := Lib.hid hs
          clear hs
          go_wp2_with fail
          go_ret
          exact ⟨by rw [allSame_not Hxa.out Hxb.out Hs.out]; rfl, hbl.then hg'⟩
        · have Hs := Lib.hid hs
          clear hs
          go_wp2_with fail
          go_roundw
          case rel => exact ⟨k + 1, by omega, by go_num, hbl.then hg', hup.succ Hxa.out Hxb.out Hs.out⟩
          case measure => simp [intOf]; omega
      · obtain rfl : k = la.length := by omega
        have HU := Lib.hid hup
        clear hup
        go_wp2_with fail
        go_ret
        exact ⟨by rw [HU.out.all H5.out]; rfl, hbl⟩
  · rw [allSame_len h5]
    have g5 : ((la.length : Int) != (lb.length : Int)) = true := by rw [bne_iff_ne]; omega
    clear h5
    go_enter Try.func39, Try.ntmps39
    go_wp2_with fail
    go_ret
    exact ⟨rfl, Below.refl _ _⟩
set_option maxRecDepth 100000 in
set_option maxHeartbeats 400000 in
theorem equalPn (fn : FuncId) (hc : ∀ (xs : Array Value) (w : World), (callFunc fn xs).run Try.prog w = .ok (.enter fn xs) w) (same : Pn → Pn → Bool) (pa pb : Option Addr) (capa capb : Nat) (la lb : List Pn) (w : World) (hla : Lies w pa capa 7 Pn.cells la) (hlb : Lies w pb capb 7 Pn.cells lb)
    (hf : ∀ (i : Nat) (x y : Pn) (w' : World), la[i]? = some x → lb[i]? = some y → Grow w w' → Calls Try.prog fn #[x.agg, y.agg] w' fun e w'' => e = .returned (.bool (same x y)) ∧ Grow w' w'') :
    Calls Try.prog 41 #[.slice pa la.length capa, .slice pb lb.length capb, .func (.func fn) #[] #[]] w fun e w' => e = .returned (.bool (allSame same la lb)) ∧ Grow w w' := by
  have HF := Lib.hid hf
  clear hf
  by_cases h5 : la.length = lb.length
  · have g5 : ((la.length : Int) != (lb.length : Int)) = false := by simp [h5]
    have H5 := Lib.hid h5
    clear h5
    have hm1 := hla.bound
    have hm2 := hlb.bound
    have Ha := Lib.hid hla
    have Hb := Lib.hid hlb
    clear hla hlb
    go_enter Try.func41, Try.ntmps41
    go_wp2_with fail
    go_loopw [17] (fun i wr => ∃ k : Nat, k ≤ la.length ∧ i = .int .i64 k ∧ Grow w wr ∧ Upto same k la lb) (fun i _ => la.length - (intOf i).toNat)
    case atStart => exact ⟨0, Nat.zero_le _, rfl, Below.refl _ _, Upto.zero _ _ _⟩
    case round =>
      obtain ⟨k, hk, rfl, hbl, hup⟩ := hrel
      by_cases hlt : k < la.length
      · have hltb : k < lb.length := by rw [← H5.out]; exact hlt
        obtain ⟨xa, hxa⟩ : ∃ x, la[k]? = some x := ⟨_, List.getElem?_eq_getElem hlt⟩
        obtain ⟨xb, hxb⟩ : ∃ x, lb[k]? = some x := ⟨_, List.getElem?_eq_getElem hltb⟩
        obtain ⟨ba, oa, rfl, hba, hea⟩ := Ha.out.elem hxa
        obtain ⟨bb, ob, rfl, hbb, heb⟩ := Hb.out.elem hxb
        obtain ⟨a0, a1, a2, a3, a4, a5, a6⟩ := (hea.grow hbl).pn
        obtain ⟨b0, b1, b2, b3, b4, b5, b6⟩ := (heb.grow hbl).pn
        have hba' : ba < wr.heap.size := Nat.lt_of_lt_of_le hba hbl.size
        have hbb' : bb < wr.heap.size := Nat.lt_of_lt_of_le hbb hbl.size
        have Hxa := Lib.hid hxa
        have Hxb := Lib.hid hxb
        clear hea heb hxa hxb
        go_wp2_with fail
        refine (HF.out k xa xb _ Hxa.out Hxb.out ((hbl.alloc' _).alloc' _)).mono ?_
        rintro e w' ⟨rfl, hg⟩
        have hg' : Grow wr w' := (((Below.refl _ _).alloc' _).alloc' _).then hg
        clear hg a0 a1 a2 a3 a4 a5 a6 b0 b1 b2 b3 b4 b5 b6
        cases hs : same xa xb
        · have Hs := Lib.hid hs
          clear hs
          go_wp2_with fail
          go_ret
          exact ⟨by rw [allSame_not Hxa.out Hxb.out Hs.out]; rfl, hbl.then hg'⟩
        · have Hs := Lib.hid hs
          clear hs
          go_wp2_with fail
          go_roundw
          case rel => exact ⟨k + 1, by omega, by go_num, hbl.then hg', hup.succ Hxa.out Hxb.out Hs.out⟩
          case measure => simp [intOf]; omega
      · obtain rfl : k = la.length := by omega
        have HU := Lib.hid hup
        clear hup
        go_wp2_with fail
        go_ret
        exact ⟨by rw [HU.out.all H5.out]; rfl, hbl⟩
  · rw [allSame_len h5]
    have g5 : ((la.length : Int) != (lb.length : Int)) = true := by rw [bne_iff_ne]; omega
    clear h5
    go_enter Try.func41, Try.ntmps41
    go_wp2_with fail
    go_ret
    exact ⟨rfl, Below.refl _ _⟩
set_option maxRecDepth 100000 in
set_option maxHeartbeats 400000 in
theorem equalRo (fn : FuncId) (hc : ∀ (xs : Array Value) (w : World), (callFunc fn xs).run Try.prog w = .ok (.enter fn xs) w) (same : Ro → Ro → Bool) (pa pb : Option Addr) (capa capb : Nat) (la lb : List Ro) (w : World) (hla : Lies w pa capa 5 Ro.cells la) (hlb : Lies w pb capb 5 Ro.cells lb)
    (hf : ∀ (i : Nat) (x y : Ro) (w' : World), la[i]? = some x → lb[i]? = some y → Grow w w' → Calls Try.prog fn #[x.agg, y.agg] w' fun e w'' => e = .returned (.bool (same x y)) ∧ Grow w' w'') :
    Calls Try.prog 35 #[.slice pa la.length capa, .slice pb lb.length capb, .func (.func fn) #[] #[]] w fun e w' => e = .returned (.bool (allSame same la lb)) ∧ Grow w w' := by
  have HF := Lib.hid hf
  clear hf
  by_cases h5 : la.length = lb.length
  · have g5 : ((la.length : Int) != (lb.length : Int)) = false := by simp [h5]
    have H5 := Lib.hid h5
    clear h5
    have hm1 := hla.bound
    have hm2 := hlb.bound
    have Ha := Lib.hid hla
    have Hb := Lib.hid hlb
    clear hla hlb
    go_enter Try.func35, Try.ntmps35
    go_wp2_with fail
    go_loopw [17] (fun i wr => ∃ k : Nat, k ≤ la.length ∧ i = .int .i64 k ∧ Grow w wr ∧ Upto same k la lb) (fun i _ => la.length - (intOf i).toNat)
    case atStart => exact ⟨0, Nat.zero_le _, rfl, Below.refl _ _, Upto.zero _ _ _⟩
    case round =>
      obtain ⟨k, hk, rfl, hbl, hup⟩ := hrel
      by_cases hlt : k < la.length
      · have hltb : k < lb.length := by rw [← H5.out]; exact hlt
        obtain ⟨xa, hxa⟩ : ∃ x, la[k]? = some x := ⟨_, List.getElem?_eq_getElem hlt⟩
        obtain ⟨xb, hxb⟩ : ∃ x, lb[k]? = some x := ⟨_, List.getElem?_eq_getElem hltb⟩
        obtain ⟨ba, oa, rfl, hba, hea⟩ := Ha.out.elem hxa
        obtain ⟨bb, ob, rfl, hbb, heb⟩ := Hb.out.elem hxb
        obtain ⟨a0, a1, a2, a3, a4⟩ := (hea.grow hbl).ro
        obtain ⟨b0, b1, b2, b3, b4⟩ := (heb.grow hbl).ro
        have hba' : ba < wr.heap.size := Nat.lt_of_lt_of_le hba hbl.size
        have hbb' : bb < wr.heap.size := Nat.lt_of_lt_of_le hbb hbl.size
        have Hxa := Lib.hid hxa
        have Hxb := Lib.hid hxb
        clear hea heb hxa hxb
        go_wp2_with fail
        refine (HF.out k xa xb _ Hxa.out Hxb.out ((hbl.alloc' _).alloc' _)).mono ?_
        rintro e w' ⟨rfl, hg⟩
        have hg' : Grow wr w' := (((Below.refl _ _).alloc' _).alloc' _).then hg
        clear hg a0 a1 a2 a3 a4 b0 b1 b2 b3 b4
        cases hs : same xa xb
        · have Hs := Lib.hid hs
          clear hs
          go_wp2_with fail
          go_ret
          exact ⟨by rw [allSame_not Hxa.out Hxb.out Hs.out]; rfl, hbl.then hg'⟩
        · have Hs := Lib.hid hs
          clear hs
          go_wp2_with fail
          go_roundw
          case rel => exact ⟨k + 1, by omega, by go_num, hbl.then hg', hup.succ Hxa.out Hxb.out Hs.out⟩
          case measure => simp [intOf]; omega
      · obtain rfl : k = la.length := by omega
        have HU := Lib.hid hup
        clear hup
        go_wp2_with fail
        go_ret
        exact ⟨by rw [HU.out.all H5.out]; rfl, hbl⟩
  · rw [allSame_len h5]
    have g5 : ((la.length : Int) != (lb.length : Int)) = true := by rw [bne_iff_ne]; omega
    clear h5
    go_enter Try.func35, Try.ntmps35
    go_wp2_with fail
    go_ret
    exact ⟨rfl, Below.refl _ _⟩
end Go.Proofs.Ytflbiiflbehleaa
