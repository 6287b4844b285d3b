import Derived.Test.YtflbiiflbehleaaCost3
namespace Go.Proofs.Ytflbiiflbehleaa
open Go.RowKit
/-- What Fair hands back. -/
def Fairs (r : Bool) (w : World) (e : Ending) (w' : World) : Prop := e = .returned (.bool r) ∧ Grow w w'
theorem unfair_ro {y : Ro} (h : ¬ (y.fs.length ≤ 170 ∧ y.ds.length ≤ 410 ∧ y.ps.length ≤ 410)) : y.fairB = false := by
  rw [Bool.eq_false_iff]; intro hh; exact h (let ⟨a, b, c, _⟩ := (Ro.fairB_iff y).1 hh; ⟨a, b, c⟩)
theorem unfair_fr {y : Ro} {i : Nat} {f : Fr} (hf : y.fs[i]? = some f) (h : ¬ f.ls.length ≤ 16) : y.fairB = false := by
  rw [Bool.eq_false_iff]; intro hh; exact h (((Ro.fairB_iff y).1 hh).2.2.2 f (getElem?_mem' hf))
set_option maxRecDepth 100000 in
set_option maxHeartbeats 2000000 in
theorem ref41_Fair (s : St) (w : World) (hs : s.In w) : Calls Try.prog 58 #[s.agg] w (Fairs s.fairB w) := by
  have m1 := hs.rs.1.bound
  by_cases h16 : s.rs.length ≤ 16
  case neg =>
    have t1 : decide ((16 : Int) < (s.rs.length : Int)) = true := by simp; omega
    rw [unfair_len h16]
    clear hs h16
    go_enter Try.func58, Try.ntmps58
    go_wp2_with fail
    go_ret
    exact ⟨rfl, (Below.refl _ _).alloc' _⟩
  have HFA := Lib.hid (fun h => FairTo.all (s := s) h h16)
  have HS := Lib.hid hs
  have t1 : decide ((16 : Int) < (s.rs.length : Int)) = false := by simp; omega
  clear hs
  go_enter Try.func58, Try.ntmps58
  go_wp2_with fail
  go_loopw [3] (fun i wr => ∃ k : Nat, k ≤ s.rs.length ∧ FairTo s.rs k ∧ i = .int .i64 k ∧ Grow w wr ∧ wr.cell? ⟨w.heap.size, 3, none⟩ = some (.slice s.rsP s.rs.length s.rsC)) (fun i _ => s.rs.length - (intOf i).toNat)
  case atStart => exact ⟨0, Nat.zero_le _, FairTo.zero _, rfl, (Below.refl _ _).alloc' _, by go_simp⟩
  case round =>
    obtain ⟨k, hk, hft, rfl, hbl, c3⟩ := hrel
    have HFT := Lib.hid hft
    clear hft
    by_cases hlt : k < s.rs.length
    · obtain ⟨y, hy⟩ : ∃ y, s.rs[k]? = some y := ⟨_, List.getElem?_eq_getElem hlt⟩
      have HUF := Lib.hid (fun h => unfair_of (s := s) hy h)
      have hyin := HS.out.rs.2 y (getElem?_mem' hy)
      obtain ⟨b, o, hp, hb, he⟩ := HS.out.rs.1.elem hy
      obtain ⟨a0, a1, a2, a3, a4⟩ := (he.grow hbl).ro
      have hbz : b < wr.heap.size := cell_lt a0
      have hz0 : w.heap.size < wr.heap.size := cell_lt c3
      have d3 := c3
      rw [hp] at d3
      have HYI := Lib.hid hyin
      have HY := Lib.hid hy
      have C3 := Lib.hid c3
      have n1 := hyin.fs.1.bound
      have n2 := hyin.ds.1.bound
      have n3 := hyin.ps.1.bound
      have GA := Lib.hid (show Grow wr (wr.alloc (.cells #[.int .u8 y.status, .int .i64 y.key, .slice y.fsP y.fs.length y.fsC, .slice y.dsP y.ds.length y.dsC, .slice y.psP y.ps.length y.psC] 68)) from (Below.refl _ _).alloc' _)
      clear he hy hyin hp c3
      by_cases hff : y.fs.length ≤ 170 ∧ y.ds.length ≤ 410 ∧ y.ps.length ≤ 410
      case neg =>
        have HU := Lib.hid (HUF.out (unfair_ro hff))
        have HFF := Lib.hid hff
        clear hff
        go_wp2_with fail
        all_goals first
          | (go_ret; exact ⟨ret_bool rfl HU.out.symm, hbl.then GA.out⟩)
          | exact absurd ⟨by omega, by omega, by omega⟩ HFF.out
      obtain ⟨g1, g2, g3⟩ := hff
      have t2 : decide ((170 : Int) < (y.fs.length : Int)) = false := by simp; omega
      have t3 : decide ((410 : Int) < (y.ds.length : Int)) = false := by simp; omega
      have t4 : decide ((410 : Int) < (y.ps.length : Int)) = false := by simp; omega
      go_wp2_with fail
      obtain ⟨wo, hwo⟩ : ∃ wo : World, wo = wr := ⟨_, rfl⟩
      rw [← hwo] at hbl hz0 hbz GA C3 ⊢
      clear hwo a0 a1 a2 a3 a4 d3
      go_loopw [5] (fun i wr => ∃ n : Nat, n ≤ y.fs.length ∧ Narrow y.fs n ∧ i = .int .i64 n ∧ Grow wo wr ∧ wr.cell? ⟨wo.heap.size, 2, none⟩ = some (.slice y.fsP y.fs.length y.fsC)) (fun i _ => y.fs.length - (intOf i).toNat)
      case atStart => exact ⟨0, Nat.zero_le _, fun i f h => absurd h (by omega), rfl, GA.out, by go_simp⟩
      case round =>
        obtain ⟨n, hn, hnar, rfl, hbo, c2⟩ := hrel
        have HNA := Lib.hid hnar
        clear hnar
        by_cases hln : n < y.fs.length
        · obtain ⟨f, hf⟩ : ∃ f, y.fs[n]? = some f := ⟨_, List.getElem?_eq_getElem hln⟩
          obtain ⟨b', o', hp', hb', he'⟩ := HYI.out.fs.1.elem hf
          obtain ⟨e0, e1, e2, e3⟩ := (he'.grow (hbl.then hbo)).fr
          have m4 := (HYI.out.fs.2 f (getElem?_mem' hf)).ls.1.bound
          have d2 := c2
          rw [hp'] at d2
          have HF := Lib.hid hf
          have C2 := Lib.hid c2
          clear he' hf hp' c2
          by_cases hl16 : f.ls.length ≤ 16
          · have t5 : decide ((16 : Int) < (f.ls.length : Int)) = false := by simp; omega
            go_wp2_with fail
            exact ⟨⟨n + 1, by omega, HNA.out.succ HF.out hl16, by go_num, hbo, C2.out⟩, by simp [intOf]; omega⟩
          · have t5 : decide ((16 : Int) < (f.ls.length : Int)) = true := by simp; omega
            have HU := Lib.hid (HUF.out (unfair_fr HF.out hl16))
            go_wp2_with fail
            go_ret
            exact ⟨ret_bool rfl HU.out.symm, hbl.then hbo⟩
        · obtain rfl : n = y.fs.length := by omega
          have HYF : y.fairB = true := (Ro.fairB_iff y).2 ⟨g1, g2, g3, HNA.out.all⟩
          have HYF' := Lib.hid HYF
          clear HYF
          go_wp2_with fail
          exact ⟨⟨k + 1, by omega, HFT.out.succ HY.out HYF'.out, by go_num, hbl.then hbo, hbo.keep C3.out⟩, by simp [intOf]; omega⟩
    · obtain rfl : k = s.rs.length := by omega
      have HU := Lib.hid (HFA.out HFT.out)
      go_wp2_with fail
      go_ret
      exact ⟨ret_bool rfl HU.out.symm, hbl⟩
end Go.Proofs.Ytflbiiflbehleaa
