import Derived.Test.YtflbiiflbehleaaRefSame
import Derived.RegionTactic
import Derived.BigRegion
namespace Go.Proofs.Ytflbiiflbehleaa
open Go.RowKit
theorem Ro.same_fs {a b : Ro} (h : allSame Fr.same a.fs b.fs = false) : Ro.same a b = false := by simp [Ro.same, h]
theorem Ro.same_ds {a b : Ro} (h : allSame Df.same a.ds b.ds = false) : Ro.same a b = false := by simp [Ro.same, h]
theorem Ro.same_ps {a b : Ro} (h : allSame Pn.same a.ps b.ps = false) : Ro.same a b = false := by simp [Ro.same, h]
set_option maxRecDepth 100000 in
set_option maxHeartbeats 8000000 in
theorem ref34_SameRoutine_yes (a b : Ro) (w : World) (ha : a.In w) (hb : b.In w) (h : a.status = b.status ∧ a.key = b.key ∧ a.fs.length = b.fs.length ∧ a.ds.length = b.ds.length ∧ a.ps.length = b.ps.length) :
    Calls Try.prog 43 #[a.agg, b.agg] w fun e w' => e = .returned (.bool (Ro.same a b)) ∧ Grow w w' := by
    have Ha := Lib.hid ha
    have Hb := Lib.hid hb
    clear ha hb
    obtain ⟨h1, h2, h3, h4, h5⟩ := h
    have t1 : (a.status != b.status) = false := by simp [h1]
    have t2 : (a.key != b.key) = false := by simp [h2]
    have t3 : ((a.fs.length : Int) != (b.fs.length : Int)) = false := by simp [h3]
    have t4 : ((a.ds.length : Int) != (b.ds.length : Int)) = false := by simp [h4]
    have t5 : ((a.ps.length : Int) != (b.ps.length : Int)) = false := by simp [h5]
    have Lst := Lib.hid h1
    have Lky := Lib.hid h2
    have Lfs := Lib.hid h3
    have Lds := Lib.hid h4
    have Lps := Lib.hid h5
    clear h1 h2 h3 h4 h5
    go_enter Try.func43, Try.ntmps43
    go_wp2_with fail
    go_loopw [5] (fun i wr => ∃ k : Nat, k ≤ a.fs.length ∧ i = .int .i64 k ∧ Grow w wr ∧ wr.cell? ⟨w.heap.size, 2, none⟩ = some (.slice a.fsP a.fs.length a.fsC) ∧ wr.cell? ⟨w.heap.size + 1, 2, none⟩ = some (.slice b.fsP b.fs.length b.fsC) ∧ wr.cell? ⟨w.heap.size, 3, none⟩ = some (.slice a.dsP a.ds.length a.dsC) ∧ wr.cell? ⟨w.heap.size + 1, 3, none⟩ = some (.slice b.dsP b.ds.length b.dsC) ∧ wr.cell? ⟨w.heap.size, 4, none⟩ = some (.slice a.psP a.ps.length a.psC) ∧ wr.cell? ⟨w.heap.size + 1, 4, none⟩ = some (.slice b.psP b.ps.length b.psC) ∧ Upto Fr.same k a.fs b.fs) (fun i _ => a.fs.length - (intOf i).toNat)
    case atStart => exact ⟨0, Nat.zero_le _, rfl, ((Below.refl _ _).alloc' _).alloc' _, by go_simp, by go_simp, by go_simp, by go_simp, by go_simp, by go_simp, Upto.zero _ _ _⟩
    case round =>
      obtain ⟨k, hk, rfl, hbl, c1, c2, c3, c4, c5, c6, hup⟩ := hrel
      by_cases hlt : k < a.fs.length
      · have hltb : k < b.fs.length := by rw [← Lfs.out]; exact hlt
        obtain ⟨xa, hxa⟩ : ∃ x, a.fs[k]? = some x := ⟨_, List.getElem?_eq_getElem hlt⟩
        obtain ⟨xb, hxb⟩ : ∃ x, b.fs[k]? = some x := ⟨_, List.getElem?_eq_getElem hltb⟩
        obtain ⟨ba, oa, hpa, hba, hea⟩ := Ha.out.fs.1.elem hxa
        obtain ⟨bb, ob, hpb, hbb, heb⟩ := Hb.out.fs.1.elem hxb
        rw [hpa] at c1
        rw [hpb] at c2
        have m1 := Ha.out.fs.1.bound
        have m2 := Hb.out.fs.1.bound
        obtain ⟨a0, a1, a2, a3⟩ := (hea.grow hbl).fr
        obtain ⟨b0, b1, b2, b3⟩ := (heb.grow hbl).fr
        have hba' : ba < wr.heap.size := Nat.lt_of_lt_of_le hba hbl.size
        have hbb' : bb < wr.heap.size := Nat.lt_of_lt_of_le hbb hbl.size
        have hz1 : w.heap.size < wr.heap.size := cell_lt c1
        have hz2 : w.heap.size + 1 < wr.heap.size := cell_lt c2
        have Hxa := Lib.hid hxa
        have Hxb := Lib.hid hxb
        have Hpa := Lib.hid hpa
        have Hpb := Lib.hid hpb
        clear hea heb hxa hxb hpa hpb
        have HC := Lib.hid (show ∀ w1, Grow wr w1 → Calls Try.prog 64 #[.slice xa.lsP xa.ls.length xa.lsC, .slice xb.lsP xb.ls.length xb.lsC] w1 fun e w' => e = .returned (.bool (allSame Loc.same xa.ls xb.ls)) ∧ Grow w1 w' from fun w1 g => ref32_SameLocals _ _ _ _ _ _ w1 ((Ha.out.fs.2 xa (getElem?_mem' Hxa.out)).ls.1.grow (hbl.then g)) ((Hb.out.fs.2 xb (getElem?_mem' Hxb.out)).ls.1.grow (hbl.then g)) (fun y hy => ((Ha.out.fs.2 xa (getElem?_mem' Hxa.out)).ls.2 y hy).grow (hbl.then g)) (fun y hy => ((Hb.out.fs.2 xb (getElem?_mem' Hxb.out)).ls.2 y hy).grow (hbl.then g)))
        go_wp2_with fail
        go_region
        all_goals
          cases hv : allSame Loc.same xa.ls xb.ls
          all_goals
            have Hv := Lib.hid hv
            clear hv
            go_wp2_with (go_at_call 64; refine (HC.out _ (((Below.refl _ _).alloc' _).alloc' _).drew).mono ?_; rintro e w' ⟨rfl, hg⟩; have kg : Grow wr w' := (((Below.refl _ _).alloc' _).alloc' _).drew.then hg; rw [Hv.out])
            all_goals first
              | (go_ret; exact ⟨ret_bool rfl (Ro.same_fs (allSame_not Hxa.out Hxb.out (by simp [Fr.same, *]))).symm, hbl.then (((Below.refl _ _).alloc' _).alloc' _).drew⟩)
              | (go_ret; exact ⟨ret_bool rfl (Ro.same_fs (allSame_not Hxa.out Hxb.out (by simp [Fr.same, Hv.out]))).symm, hbl.then kg⟩)
              | exact ⟨⟨k + 1, by omega, by go_num, hbl.then kg, by rw [Hpa.out]; exact kg.keep c1, by rw [Hpb.out]; exact kg.keep c2, kg.keep c3, kg.keep c4, kg.keep c5, kg.keep c6, hup.succ Hxa.out Hxb.out (by simp [Fr.same, Hv.out, *])⟩, by simp [intOf]; omega⟩
      · obtain rfl : k = a.fs.length := by omega
        have Ufs := Lib.hid hup
        clear hup
        have m1 := Ha.out.fs.1.bound
        go_wp2_with fail
        go_loopw [8] (fun i wr => ∃ k : Nat, k ≤ a.ds.length ∧ i = .int .i64 k ∧ Grow w wr ∧ wr.cell? ⟨w.heap.size, 2, none⟩ = some (.slice a.fsP a.fs.length a.fsC) ∧ wr.cell? ⟨w.heap.size + 1, 2, none⟩ = some (.slice b.fsP b.fs.length b.fsC) ∧ wr.cell? ⟨w.heap.size, 3, none⟩ = some (.slice a.dsP a.ds.length a.dsC) ∧ wr.cell? ⟨w.heap.size + 1, 3, none⟩ = some (.slice b.dsP b.ds.length b.dsC) ∧ wr.cell? ⟨w.heap.size, 4, none⟩ = some (.slice a.psP a.ps.length a.psC) ∧ wr.cell? ⟨w.heap.size + 1, 4, none⟩ = some (.slice b.psP b.ps.length b.psC) ∧ Upto Df.same k a.ds b.ds) (fun i _ => a.ds.length - (intOf i).toNat)
        case atStart => exact ⟨0, Nat.zero_le _, rfl, hbl, c1, c2, c3, c4, c5, c6, Upto.zero _ _ _⟩
        case round =>
          obtain ⟨k, hk, rfl, hbl, c1, c2, c3, c4, c5, c6, hup⟩ := hrel
          by_cases hlt : k < a.ds.length
          · have hltb : k < b.ds.length := by rw [← Lds.out]; exact hlt
            obtain ⟨xa, hxa⟩ : ∃ x, a.ds[k]? = some x := ⟨_, List.getElem?_eq_getElem hlt⟩
            obtain ⟨xb, hxb⟩ : ∃ x, b.ds[k]? = some x := ⟨_, List.getElem?_eq_getElem hltb⟩
            obtain ⟨ba, oa, hpa, hba, hea⟩ := Ha.out.ds.1.elem hxa
            obtain ⟨bb, ob, hpb, hbb, heb⟩ := Hb.out.ds.1.elem hxb
            rw [hpa] at c3
            rw [hpb] at c4
            have m1 := Ha.out.ds.1.bound
            have m2 := Hb.out.ds.1.bound
            obtain ⟨a0, a1, a2, a3, a4, a5, a6, a7⟩ := (hea.grow hbl).df
            obtain ⟨b0, b1, b2, b3, b4, b5, b6, b7⟩ := (heb.grow hbl).df
            have hba' : ba < wr.heap.size := Nat.lt_of_lt_of_le hba hbl.size
            have hbb' : bb < wr.heap.size := Nat.lt_of_lt_of_le hbb hbl.size
            have hz1 : w.heap.size < wr.heap.size := cell_lt c1
            have hz2 : w.heap.size + 1 < wr.heap.size := cell_lt c2
            have Hxa := Lib.hid hxa
            have Hxb := Lib.hid hxb
            have Hpa := Lib.hid hpa
            have Hpb := Lib.hid hpb
            clear hea heb hxa hxb hpa hpb
            have HC := Lib.hid (show ∀ w1, Grow wr w1 → Calls Try.prog 65 #[xa.arg.agg, xb.arg.agg] w1 fun e w' => e = .returned (.bool (V.same xa.arg xb.arg)) ∧ Grow w1 w' from fun w1 g => ref15_same _ _ w1 ((Ha.out.ds.2 xa (getElem?_mem' Hxa.out)).arg.grow (hbl.then g)) ((Hb.out.ds.2 xb (getElem?_mem' Hxb.out)).arg.grow (hbl.then g)))
            go_wp2_with fail
            go_region
            all_goals
              cases hv : V.same xa.arg xb.arg
              all_goals
                have Hv := Lib.hid hv
                clear hv
                go_wp2_with (go_at_call 65; refine (HC.out _ (((Below.refl _ _).alloc' _).alloc' _).drew).mono ?_; rintro e w' ⟨rfl, hg⟩; have kg : Grow wr w' := (((Below.refl _ _).alloc' _).alloc' _).drew.then hg; rw [Hv.out])
                all_goals first
                  | (go_ret; exact ⟨ret_bool rfl (Ro.same_ds (allSame_not Hxa.out Hxb.out (by simp [Df.same, *]))).symm, hbl.then (((Below.refl _ _).alloc' _).alloc' _).drew⟩)
                  | (go_ret; exact ⟨ret_bool rfl (Ro.same_ds (allSame_not Hxa.out Hxb.out (by simp [Df.same, Hv.out]))).symm, hbl.then kg⟩)
                  | exact ⟨⟨k + 1, by omega, by go_num, hbl.then kg, kg.keep c1, kg.keep c2, by rw [Hpa.out]; exact kg.keep c3, by rw [Hpb.out]; exact kg.keep c4, kg.keep c5, kg.keep c6, hup.succ Hxa.out Hxb.out (by simp [Df.same, Hv.out, *])⟩, by simp [intOf]; omega⟩
          · obtain rfl : k = a.ds.length := by omega
            have Uds := Lib.hid hup
            clear hup
            have m1 := Ha.out.ds.1.bound
            go_wp2_with fail
            go_loopw [11] (fun i wr => ∃ k : Nat, k ≤ a.ps.length ∧ i = .int .i64 k ∧ Grow w wr ∧ wr.cell? ⟨w.heap.size, 2, none⟩ = some (.slice a.fsP a.fs.length a.fsC) ∧ wr.cell? ⟨w.heap.size + 1, 2, none⟩ = some (.slice b.fsP b.fs.length b.fsC) ∧ wr.cell? ⟨w.heap.size, 3, none⟩ = some (.slice a.dsP a.ds.length a.dsC) ∧ wr.cell? ⟨w.heap.size + 1, 3, none⟩ = some (.slice b.dsP b.ds.length b.dsC) ∧ wr.cell? ⟨w.heap.size, 4, none⟩ = some (.slice a.psP a.ps.length a.psC) ∧ wr.cell? ⟨w.heap.size + 1, 4, none⟩ = some (.slice b.psP b.ps.length b.psC) ∧ Upto Pn.same k a.ps b.ps) (fun i _ => a.ps.length - (intOf i).toNat)
            case atStart => exact ⟨0, Nat.zero_le _, rfl, hbl, c1, c2, c3, c4, c5, c6, Upto.zero _ _ _⟩
            case round =>
              obtain ⟨k, hk, rfl, hbl, c1, c2, c3, c4, c5, c6, hup⟩ := hrel
              by_cases hlt : k < a.ps.length
              · have hltb : k < b.ps.length := by rw [← Lps.out]; exact hlt
                obtain ⟨xa, hxa⟩ : ∃ x, a.ps[k]? = some x := ⟨_, List.getElem?_eq_getElem hlt⟩
                obtain ⟨xb, hxb⟩ : ∃ x, b.ps[k]? = some x := ⟨_, List.getElem?_eq_getElem hltb⟩
                obtain ⟨ba, oa, hpa, hba, hea⟩ := Ha.out.ps.1.elem hxa
                obtain ⟨bb, ob, hpb, hbb, heb⟩ := Hb.out.ps.1.elem hxb
                rw [hpa] at c5
                rw [hpb] at c6
                have m1 := Ha.out.ps.1.bound
                have m2 := Hb.out.ps.1.bound
                obtain ⟨a0, a1, a2, a3, a4, a5, a6⟩ := (hea.grow hbl).pn
                obtain ⟨b0, b1, b2, b3, b4, b5, b6⟩ := (heb.grow hbl).pn
                have hba' : ba < wr.heap.size := Nat.lt_of_lt_of_le hba hbl.size
                have hbb' : bb < wr.heap.size := Nat.lt_of_lt_of_le hbb hbl.size
                have hz1 : w.heap.size < wr.heap.size := cell_lt c1
                have hz2 : w.heap.size + 1 < wr.heap.size := cell_lt c2
                have Hxa := Lib.hid hxa
                have Hxb := Lib.hid hxb
                have Hpa := Lib.hid hpa
                have Hpb := Lib.hid hpb
                clear hea heb hxa hxb hpa hpb
                have HC := Lib.hid (show ∀ w1, Grow wr w1 → Calls Try.prog 65 #[xa.v.agg, xb.v.agg] w1 fun e w' => e = .returned (.bool (V.same xa.v xb.v)) ∧ Grow w1 w' from fun w1 g => ref15_same _ _ w1 ((Ha.out.ps.2 xa (getElem?_mem' Hxa.out)).v.grow (hbl.then g)) ((Hb.out.ps.2 xb (getElem?_mem' Hxb.out)).v.grow (hbl.then g)))
                go_wp2_with fail
                go_region
                all_goals
                  cases hv : V.same xa.v xb.v
                  all_goals
                    have Hv := Lib.hid hv
                    clear hv
                    go_wp2_with (go_at_call 65; refine (HC.out _ (((Below.refl _ _).alloc' _).alloc' _).drew).mono ?_; rintro e w' ⟨rfl, hg⟩; have kg : Grow wr w' := (((Below.refl _ _).alloc' _).alloc' _).drew.then hg; rw [Hv.out])
                    all_goals first
                      | (go_ret; exact ⟨ret_bool rfl (Ro.same_ps (allSame_not Hxa.out Hxb.out (by simp [Pn.same, *]))).symm, hbl.then (((Below.refl _ _).alloc' _).alloc' _).drew⟩)
                      | (go_ret; exact ⟨ret_bool rfl (Ro.same_ps (allSame_not Hxa.out Hxb.out (by simp [Pn.same, Hv.out]))).symm, hbl.then kg⟩)
                      | exact ⟨⟨k + 1, by omega, by go_num, hbl.then kg, kg.keep c1, kg.keep c2, kg.keep c3, kg.keep c4, by rw [Hpa.out]; exact kg.keep c5, by rw [Hpb.out]; exact kg.keep c6, hup.succ Hxa.out Hxb.out (by simp [Pn.same, Hv.out, *])⟩, by simp [intOf]; omega⟩
              · obtain rfl : k = a.ps.length := by omega
                have Ups := Lib.hid hup
                clear hup
                have m1 := Ha.out.ps.1.bound
                go_wp2_with fail
                go_ret
                exact ⟨ret_bool rfl (by simp [Ro.same, Lst.out, Lky.out, Ufs.out.all Lfs.out, Uds.out.all Lds.out, Ups.out.all Lps.out]), hbl⟩
end Go.Proofs.Ytflbiiflbehleaa
