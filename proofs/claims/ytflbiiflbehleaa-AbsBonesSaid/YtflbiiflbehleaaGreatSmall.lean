import Derived.Test.YtflbiiflbehleaaAbsGreat
namespace Go.Proofs.Ytflbiiflbehleaa
open Go.RowKit
def SmallRo (y : Ro) : Prop := y.fs.length ≤ 12 ∧ y.ds.length ≤ 12 ∧ y.ps.length ≤ 20
def SmallSt (s : St) : Prop := s.rs.length ≤ 20 ∧ ∀ y, y ∈ s.rs → SmallRo y
def SmallTo (s : St) (k : Nat) : Prop := ∀ j y, j < k → s.rs[j]? = some y → SmallRo y
theorem SmallTo.zero (s : St) : SmallTo s 0 := fun _ _ h => absurd h (by omega)
theorem SmallTo.succ {s : St} {k : Nat} {y : Ro} (h : SmallTo s k) (hy : s.rs[k]? = some y) (h1 : SmallRo y) : SmallTo s (k + 1) := by
  intro j z hj hz
  by_cases hjk : j = k
  · subst hjk; rw [hy] at hz; cases hz; exact h1
  · exact h j z (by omega) hz
theorem SmallTo.all {s : St} (h : SmallTo s s.rs.length) : ∀ y, y ∈ s.rs → SmallRo y := by
  intro y hy
  obtain ⟨j, hj, rfl⟩ := List.getElem_of_mem hy
  exact h j _ hj (List.getElem?_eq_getElem hj)
/-- Great's answer: if it is no, then the lengths are bounded. -/
def GreatB (s : St) (w : World) (e : Ending) (w' : World) : Prop := ∃ r : Bool, e = .returned (.bool r) ∧ Grow w w' ∧ (r = false → SmallSt s)
theorem GreatB.mk {s : St} {w w' : World} {v : Value} {r : Bool} (h : v = .bool r) (g : Grow w w') (hs : r = false → SmallSt s) : GreatB s w (.returned v) w' := ⟨r, by rw [h], g, hs⟩
theorem GreatB.yes {s : St} {w w' : World} {v : Value} (h : v = .bool true) (g : Grow w w') : GreatB s w (.returned v) w' := ⟨true, by rw [h], g, by simp⟩
set_option maxRecDepth 100000 in
set_option maxHeartbeats 4000000 in
theorem ref36_GreatB (s : St) (w : World) (hs : s.In w) : Calls Try.prog 21 #[s.agg] w (GreatB s w) := by
  have HS := Lib.hid hs
  have m1 := hs.rs.1.bound
  clear hs
  go_enter Try.func21, Try.ntmps21
  go_wp2_with fail
  go_loopw [3] (fun i wr => ∃ k : Nat, k ≤ s.rs.length ∧ i = .int .i64 k ∧ Grow w wr ∧ wr.cell? ⟨w.heap.size, 3, none⟩ = some (.slice s.rsP s.rs.length s.rsC) ∧ SmallTo s k) (fun i _ => s.rs.length - (intOf i).toNat)
  case atStart => exact ⟨0, Nat.zero_le _, rfl, (Below.refl _ _).alloc' _, by go_simp, SmallTo.zero s⟩
  case round =>
    obtain ⟨k, hk, rfl, hbl, c3, hsm⟩ := hrel
    have HSM := Lib.hid hsm
    clear hsm
    by_cases hlt : k < s.rs.length
    · by_cases hlim : k ≤ 20
      case neg =>
        go_wp2_with fail
        go_ret
        exact .mk rfl hbl (fun h => absurd h (by simp; omega))
      have t20 : decide ((k : Int) ≤ 20) = true := by simp; omega
      obtain ⟨y, hy⟩ : ∃ y, s.rs[k]? = some y := ⟨_, List.getElem?_eq_getElem hlt⟩
      have HY := Lib.hid hy
      have HYI := Lib.hid (HS.out.rs.2 y (getElem?_mem' hy))
      obtain ⟨b, o, hp, hb, he⟩ := HS.out.rs.1.elem hy
      obtain ⟨a0, a1, a2, a3, a4⟩ := (he.grow hbl).ro
      have n1 := HYI.out.fs.1.bound
      have n2 := HYI.out.ds.1.bound
      have n3 := HYI.out.ps.1.bound
      have hz0 : w.heap.size < wr.heap.size := cell_lt c3
      have hbz : b < wr.heap.size := cell_lt a0
      have d3 := c3
      rw [hp] at d3
      have C3 := Lib.hid c3
      have GA := Lib.hid (show Grow wr (wr.alloc (.cells #[.int .u8 y.status, .int .i64 y.key, .slice y.fsP y.fs.length y.fsC, .slice y.dsP y.ds.length y.dsC, .slice y.psP y.ps.length y.psC] 68)) from (Below.refl _ _).alloc' _)
      clear he hy hp c3
      by_cases hff : y.fs.length ≤ 12 ∧ y.ds.length ≤ 12 ∧ y.ps.length ≤ 20
      case neg =>
        have HFF := Lib.hid hff
        clear hff
        go_wp2_with fail
        all_goals first
          | (go_ret; exact .yes rfl (hbl.then GA.out))
          | exact absurd ⟨by omega, by omega, by omega⟩ HFF.out
      obtain ⟨g1, g2, g3⟩ := hff
      have t2 : decide ((12 : Int) < (y.fs.length : Int)) = false := by simp; omega
      have t3 : decide ((12 : Int) < (y.ds.length : Int)) = false := by simp; omega
      have t4 : decide ((20 : Int) < (y.ps.length : Int)) = false := by simp; omega
      go_wp2_with fail
      obtain ⟨X, hX⟩ : ∃ X, X = wr.heap.size := ⟨_, rfl⟩
      have HXC := Lib.hid (show (wr.alloc (.cells #[.int .u8 y.status, .int .i64 y.key, .slice y.fsP y.fs.length y.fsC, .slice y.dsP y.ds.length y.dsC, .slice y.psP y.ps.length y.psC] 68)).cell? ⟨wr.heap.size, 2, none⟩ = some (.slice y.fsP y.fs.length y.fsC) ∧ (wr.alloc (.cells #[.int .u8 y.status, .int .i64 y.key, .slice y.fsP y.fs.length y.fsC, .slice y.dsP y.ds.length y.dsC, .slice y.psP y.ps.length y.psC] 68)).cell? ⟨wr.heap.size, 3, none⟩ = some (.slice y.dsP y.ds.length y.dsC) ∧ (wr.alloc (.cells #[.int .u8 y.status, .int .i64 y.key, .slice y.fsP y.fs.length y.fsC, .slice y.dsP y.ds.length y.dsC, .slice y.psP y.ps.length y.psC] 68)).cell? ⟨wr.heap.size, 4, none⟩ = some (.slice y.psP y.ps.length y.psC) from ⟨by go_simp, by go_simp, by go_simp⟩)
      rw [← hX]
      rw [← hX] at HXC
      have SS := Lib.hid (hbl.then GA.out)
      have S3 := Lib.hid (GA.out.keep C3.out)
      clear hX a0 a1 a2 a3 a4 d3 hbl C3 hz0 hbz GA
      go_loopw [5] (fun i wr => ∃ n : Nat, n ≤ y.fs.length ∧ i = .int .i64 n ∧ Grow w wr ∧ wr.cell? ⟨w.heap.size, 3, none⟩ = some (.slice s.rsP s.rs.length s.rsC) ∧ wr.cell? ⟨X, 2, none⟩ = some (.slice y.fsP y.fs.length y.fsC) ∧ wr.cell? ⟨X, 3, none⟩ = some (.slice y.dsP y.ds.length y.dsC) ∧ wr.cell? ⟨X, 4, none⟩ = some (.slice y.psP y.ps.length y.psC)) (fun i _ => y.fs.length - (intOf i).toNat)
      case atStart => exact ⟨0, Nat.zero_le _, rfl, SS.out, S3.out, HXC.out.1, HXC.out.2.1, HXC.out.2.2⟩
      case round =>
        obtain ⟨n, hn, rfl, hbl, c3, x2, x3, x4⟩ := hrel
        by_cases hln : n < y.fs.length
        · obtain ⟨f, hf⟩ : ∃ f, y.fs[n]? = some f := ⟨_, List.getElem?_eq_getElem hln⟩
          obtain ⟨b1, o1, hp1, hb1, he1⟩ := HYI.out.fs.1.elem hf
          have HFI := Lib.hid (HYI.out.fs.2 f (getElem?_mem' hf))
          have HPF := Lib.hid hp1
          have HEF := Lib.hid he1
          have m4 := HFI.out.ls.1.bound
          obtain ⟨p0, p1, p2, p3⟩ := (he1.grow hbl).fr
          have d0 := x2
          rw [hp1] at d0
          have C0 := Lib.hid x2
          clear he1 hf hp1 x2
          by_cases hl20 : f.ls.length ≤ 20
          case neg =>
            have t9 : decide ((20 : Int) < (f.ls.length : Int)) = true := by simp; omega
            go_wp2_with fail
            go_ret
            exact .yes rfl hbl
          have t9 : decide ((20 : Int) < (f.ls.length : Int)) = false := by simp; omega
          go_wp2_with fail
          obtain ⟨wo, hwo⟩ : ∃ wo : World, wo = wr := ⟨_, rfl⟩
          rw [← hwo] at hbl c3 C0 x3 x4 ⊢
          clear hwo d0 p0 p1 p2 p3
          go_loopw [6] (fun i wr => ∃ q : Nat, q ≤ f.ls.length ∧ i = .int .i64 q ∧ Grow w wr ∧ wr.cell? ⟨w.heap.size, 3, none⟩ = some (.slice s.rsP s.rs.length s.rsC) ∧ wr.cell? ⟨X, 2, none⟩ = some (.slice y.fsP y.fs.length y.fsC) ∧ wr.cell? ⟨X, 3, none⟩ = some (.slice y.dsP y.ds.length y.dsC) ∧ wr.cell? ⟨X, 4, none⟩ = some (.slice y.psP y.ps.length y.psC)) (fun i _ => f.ls.length - (intOf i).toNat)
          case atStart => exact ⟨0, Nat.zero_le _, rfl, hbl, c3, C0.out, x3, x4⟩
          case round =>
            clear hbl c3 C0 x3 x4
            obtain ⟨q, hq, rfl, hbl, c3, x2, x3, x4⟩ := hrel
            obtain ⟨p0, p1, p2, p3⟩ := (HEF.out.grow hbl).fr
            have d0 := x2
            rw [HPF.out] at d0
            have C0 := Lib.hid x2
            clear x2
            by_cases hlq : q < f.ls.length
            · obtain ⟨z, hz⟩ : ∃ z, f.ls[q]? = some z := ⟨_, List.getElem?_eq_getElem hlq⟩
              obtain ⟨b2, o2, hp2, hb2, he2⟩ := HFI.out.ls.1.elem hz
              have HZI := Lib.hid (HFI.out.ls.2 z (getElem?_mem' hz))
              obtain ⟨e0, e1, e2, e3, e4, e5⟩ := (he2.grow hbl).loc
              rw [hp2] at p3
              clear he2 hz hp2
              go_wp2_with (go_at_call 49; refine (ref36_values z.v _ (HZI.out.v.grow hbl)).mono ?_; rintro e w' ⟨r, rfl, hg⟩; by_cases hr0 : r ≤ 400)
              · exact ⟨⟨q + 1, by omega, by go_num, hbl.then hg, hg.keep c3, hg.keep C0.out, hg.keep x3, hg.keep x4⟩, by simp [intOf]; omega⟩
              · go_ret
                exact .yes rfl (hbl.then hg)
            · obtain rfl : q = f.ls.length := by omega
              go_wp2_with fail
              exact ⟨⟨n + 1, by omega, by go_num, hbl, c3, C0.out, x3, x4⟩, by simp [intOf]; omega⟩
        · obtain rfl : n = y.fs.length := by omega
          go_wp2_with fail
          go_loopw [7] (fun i wr => ∃ n : Nat, n ≤ y.ds.length ∧ i = .int .i64 n ∧ Grow w wr ∧ wr.cell? ⟨w.heap.size, 3, none⟩ = some (.slice s.rsP s.rs.length s.rsC) ∧ wr.cell? ⟨X, 3, none⟩ = some (.slice y.dsP y.ds.length y.dsC) ∧ wr.cell? ⟨X, 4, none⟩ = some (.slice y.psP y.ps.length y.psC)) (fun i _ => y.ds.length - (intOf i).toNat)
          case atStart => exact ⟨0, Nat.zero_le _, rfl, hbl, c3, x3, x4⟩
          case round =>
            clear hbl c3 x2 x3 x4
            obtain ⟨n, hn, rfl, hbl, c3, x3, x4⟩ := hrel
            by_cases hln : n < y.ds.length
            · obtain ⟨f, hf⟩ : ∃ f, y.ds[n]? = some f := ⟨_, List.getElem?_eq_getElem hln⟩
              obtain ⟨b1, o1, hp1, hb1, he1⟩ := HYI.out.ds.1.elem hf
              have HFI := Lib.hid (HYI.out.ds.2 f (getElem?_mem' hf))
              obtain ⟨a0, a1, a2, a3, a4, a5, a6, a7⟩ := (he1.grow hbl).df
              have d0 := x3
              rw [hp1] at d0
              have C0 := Lib.hid x3
              clear he1 hf hp1 x3
              go_wp2_with (go_at_call 49; refine (ref36_values f.arg _ (HFI.out.arg.grow hbl)).mono ?_; rintro e w' ⟨r, rfl, hg⟩; by_cases hr0 : r ≤ 400)
              · exact ⟨⟨n + 1, by omega, by go_num, hbl.then hg, hg.keep c3, hg.keep C0.out, hg.keep x4⟩, by simp [intOf]; omega⟩
              · go_ret
                exact .yes rfl (hbl.then hg)
            · obtain rfl : n = y.ds.length := by omega
              go_wp2_with fail
              go_loopw [8] (fun i wr => ∃ n : Nat, n ≤ y.ps.length ∧ i = .int .i64 n ∧ Grow w wr ∧ wr.cell? ⟨w.heap.size, 3, none⟩ = some (.slice s.rsP s.rs.length s.rsC) ∧ wr.cell? ⟨X, 4, none⟩ = some (.slice y.psP y.ps.length y.psC)) (fun i _ => y.ps.length - (intOf i).toNat)
              case atStart => exact ⟨0, Nat.zero_le _, rfl, hbl, c3, x4⟩
              case round =>
                clear hbl c3 x4
                obtain ⟨n, hn, rfl, hbl, c3, x4⟩ := hrel
                by_cases hln : n < y.ps.length
                · obtain ⟨f, hf⟩ : ∃ f, y.ps[n]? = some f := ⟨_, List.getElem?_eq_getElem hln⟩
                  obtain ⟨b1, o1, hp1, hb1, he1⟩ := HYI.out.ps.1.elem hf
                  have HFI := Lib.hid (HYI.out.ps.2 f (getElem?_mem' hf))
                  obtain ⟨a0, a1, a2, a3, a4, a5, a6⟩ := (he1.grow hbl).pn
                  have d0 := x4
                  rw [hp1] at d0
                  have C0 := Lib.hid x4
                  clear he1 hf hp1 x4
                  go_wp2_with (go_at_call 49; refine (ref36_values f.v _ (HFI.out.v.grow hbl)).mono ?_; rintro e w' ⟨r, rfl, hg⟩; by_cases hr0 : r ≤ 400)
                  · exact ⟨⟨n + 1, by omega, by go_num, hbl.then hg, hg.keep c3, hg.keep C0.out⟩, by simp [intOf]; omega⟩
                  · go_ret
                    exact .yes rfl (hbl.then hg)
                · obtain rfl : n = y.ps.length := by omega
                  go_wp2_with fail
                  exact ⟨⟨k + 1, by omega, by go_num, hbl, c3, HSM.out.succ HY.out ⟨g1, g2, g3⟩⟩, by simp [intOf]; omega⟩
    · obtain rfl : k = s.rs.length := by omega
      go_wp2_with fail
      go_ret
      exact .mk rfl hbl (fun h => ⟨by simp at h; omega, HSM.out.all⟩)
end Go.Proofs.Ytflbiiflbehleaa
