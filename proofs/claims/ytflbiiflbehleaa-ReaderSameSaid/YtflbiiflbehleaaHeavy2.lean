import Derived.Test.YtflbiiflbehleaaHeavy
namespace Go.Proofs.Ytflbiiflbehleaa
open Go.RowKit
set_option maxRecDepth 100000 in
set_option maxHeartbeats 1000000 in
theorem ref34_HeavyRoutine (x : Ro) (w : World) (hx : x.In w) : Calls Try.prog 34 #[x.agg] w (SomeBool w) := by
  have HX := Lib.hid hx
  have m1 := hx.fs.1.bound
  have m2 := hx.ds.1.bound
  have m3 := hx.ps.1.bound
  clear hx
  have HC := Lib.hid (show ∀ (v : V) w1, v.In w1 → Calls Try.prog 60 #[v.agg] w1 (SomeBool w1) from fun v w1 h => ref32_Heavy v w1 h)
  go_enter Try.func34, Try.ntmps34
  go_wp2_with fail
  all_goals try (go_ret; exact .mk rfl ((Below.refl _ _).alloc' _))
  go_loopw [3] (fun i wr => ∃ k : Nat, k ≤ x.fs.length ∧ i = .int .i64 k ∧ Grow w wr ∧ wr.cell? ⟨w.heap.size, 2, none⟩ = some (.slice x.fsP x.fs.length x.fsC) ∧ wr.cell? ⟨w.heap.size, 3, none⟩ = some (.slice x.dsP x.ds.length x.dsC) ∧ wr.cell? ⟨w.heap.size, 4, none⟩ = some (.slice x.psP x.ps.length x.psC)) (fun i _ => x.fs.length - (intOf i).toNat)
  case atStart => exact ⟨0, Nat.zero_le _, rfl, (Below.refl _ _).alloc' _, by go_simp, by go_simp, by go_simp⟩
  case round =>
    obtain ⟨k, hk, rfl, hbl, c1, c2, c3⟩ := hrel
    by_cases hlt : k < x.fs.length
    · obtain ⟨y, hy⟩ : ∃ y, x.fs[k]? = some y := ⟨_, List.getElem?_eq_getElem hlt⟩
      obtain ⟨b, o, hp, hb, he⟩ := HX.out.fs.1.elem hy
      have HY := Lib.hid hy
      have HP := Lib.hid hp
      have HE := Lib.hid he
      clear hy hp he
      go_wp2_with fail
      obtain ⟨wo, hwo⟩ : ∃ wo : World, wo = wr := ⟨_, rfl⟩
      rw [← hwo] at hbl c1 c2 c3 ⊢
      clear hwo
      go_loopw [4] (fun i wr => ∃ n : Nat, n ≤ y.ls.length ∧ i = .int .i64 n ∧ Grow wo wr) (fun i _ => y.ls.length - (intOf i).toNat)
      case atStart => exact ⟨0, Nat.zero_le _, rfl, Below.refl _ _⟩
      case round =>
        obtain ⟨n, hn, rfl, hbo⟩ := hrel
        obtain ⟨a0, a1, a2, a3⟩ := (HE.out.grow (hbl.then hbo)).fr
        have d1 := hbo.keep c1
        rw [HP.out] at d1
        have m4 := (HX.out.fs.2 y (getElem?_mem' HY.out)).ls.1.bound
        by_cases hln : n < y.ls.length
        · obtain ⟨z, hz⟩ : ∃ z, y.ls[n]? = some z := ⟨_, List.getElem?_eq_getElem hln⟩
          obtain ⟨b', o', hp', hb', he'⟩ := (HX.out.fs.2 y (getElem?_mem' HY.out)).ls.1.elem hz
          obtain ⟨e0, e1, e2, e3, e4, e5⟩ := (he'.grow (hbl.then hbo)).loc
          have HZ := Lib.hid hz
          rw [hp'] at a3
          clear hz hp' he'
          by_cases h20 : n ≤ 20
          · go_wp2_with (go_at_call 60; refine (HC.out z.v _ (((HX.out.fs.2 y (getElem?_mem' HY.out)).ls.2 z (getElem?_mem' HZ.out)).v.grow (hbl.then hbo))).mono ?_; rintro e w' ⟨r, rfl, hg⟩; cases r)
            · exact ⟨⟨n + 1, by omega, by go_num, hbo.then hg⟩, by simp [intOf]; omega⟩
            · go_ret
              exact .mk rfl ((hbl.then hbo).then hg)
          · go_wp2_with fail
            go_ret
            exact .mk rfl (hbl.then hbo)
        · obtain rfl : n = y.ls.length := by omega
          go_wp2_with fail
          exact ⟨⟨k + 1, by omega, by go_num, hbl.then hbo, hbo.keep c1, hbo.keep c2, hbo.keep c3⟩, by simp [intOf]; omega⟩
    · obtain rfl : k = x.fs.length := by omega
      go_wp2_with fail
      go_loopw [5] (fun i wr => ∃ k : Nat, k ≤ x.ds.length ∧ i = .int .i64 k ∧ Grow w wr ∧ wr.cell? ⟨w.heap.size, 3, none⟩ = some (.slice x.dsP x.ds.length x.dsC) ∧ wr.cell? ⟨w.heap.size, 4, none⟩ = some (.slice x.psP x.ps.length x.psC)) (fun i _ => x.ds.length - (intOf i).toNat)
      case atStart => exact ⟨0, Nat.zero_le _, rfl, hbl, c2, c3⟩
      case round =>
        clear hbl c1 c2 c3
        obtain ⟨k, hk, rfl, hbl, c2, c3⟩ := hrel
        by_cases hlt : k < x.ds.length
        · obtain ⟨y, hy⟩ : ∃ y, x.ds[k]? = some y := ⟨_, List.getElem?_eq_getElem hlt⟩
          obtain ⟨b, o, hp, hb, he⟩ := HX.out.ds.1.elem hy
          obtain ⟨a0, a1, a2, a3, a4, a5, a6, a7⟩ := (he.grow hbl).df
          have d2 := c2
          rw [hp] at d2
          have HY := Lib.hid hy
          have HC2 := Lib.hid c2
          clear hy hp he c2
          go_wp2_with (go_at_call 60; refine (HC.out y.arg _ ((HX.out.ds.2 y (getElem?_mem' HY.out)).arg.grow hbl)).mono ?_; rintro e w' ⟨r, rfl, hg⟩; cases r)
          · exact ⟨⟨k + 1, by omega, by go_num, hbl.then hg, hg.keep HC2.out, hg.keep c3⟩, by simp [intOf]; omega⟩
          · go_ret
            exact .mk rfl (hbl.then hg)
        · obtain rfl : k = x.ds.length := by omega
          go_wp2_with fail
          go_loopw [6] (fun i wr => ∃ k : Nat, k ≤ x.ps.length ∧ i = .int .i64 k ∧ Grow w wr ∧ wr.cell? ⟨w.heap.size, 4, none⟩ = some (.slice x.psP x.ps.length x.psC)) (fun i _ => x.ps.length - (intOf i).toNat)
          case atStart => exact ⟨0, Nat.zero_le _, rfl, hbl, c3⟩
          case round =>
            clear hbl c2 c3
            obtain ⟨k, hk, rfl, hbl, c3⟩ := hrel
            by_cases hlt : k < x.ps.length
            · obtain ⟨y, hy⟩ : ∃ y, x.ps[k]? = some y := ⟨_, List.getElem?_eq_getElem hlt⟩
              obtain ⟨b, o, hp, hb, he⟩ := HX.out.ps.1.elem hy
              obtain ⟨a0, a1, a2, a3, a4, a5, a6⟩ := (he.grow hbl).pn
              have d3 := c3
              rw [hp] at d3
              have HY := Lib.hid hy
              have HC3 := Lib.hid c3
              clear hy hp he c3
              go_wp2_with (go_at_call 60; refine (HC.out y.v _ ((HX.out.ps.2 y (getElem?_mem' HY.out)).v.grow hbl)).mono ?_; rintro e w' ⟨r, rfl, hg⟩; cases r)
              · exact ⟨⟨k + 1, by omega, by go_num, hbl.then hg, hg.keep HC3.out⟩, by simp [intOf]; omega⟩
              · go_ret
                exact .mk rfl (hbl.then hg)
            · obtain rfl : k = x.ps.length := by omega
              go_wp2_with fail
              go_ret
              exact .mk rfl hbl
set_option maxRecDepth 100000 in
set_option maxHeartbeats 1000000 in
theorem ref34_Heavy (x : St) (w : World) (hx : x.In w) : Calls Try.prog 7 #[x.agg] w (SomeBool w) := by
  have HX := Lib.hid hx
  have m1 := hx.rs.1.bound
  clear hx
  have HC := Lib.hid (show ∀ (v : Ro) w1, v.In w1 → Calls Try.prog 34 #[v.agg] w1 (SomeBool w1) from fun v w1 h => ref34_HeavyRoutine v w1 h)
  go_enter Try.func7, Try.ntmps7
  go_wp2_with fail
  go_loopw [3] (fun i wr => ∃ k : Nat, k ≤ x.rs.length ∧ i = .int .i64 k ∧ Grow w wr ∧ wr.cell? ⟨w.heap.size, 3, none⟩ = some (.slice x.rsP x.rs.length x.rsC)) (fun i _ => x.rs.length - (intOf i).toNat)
  case atStart => exact ⟨0, Nat.zero_le _, rfl, (Below.refl _ _).alloc' _, by go_simp⟩
  case round =>
    obtain ⟨k, hk, rfl, hbl, c1⟩ := hrel
    by_cases hlt : k < x.rs.length
    · obtain ⟨y, hy⟩ : ∃ y, x.rs[k]? = some y := ⟨_, List.getElem?_eq_getElem hlt⟩
      obtain ⟨b, o, hp, hb, he⟩ := HX.out.rs.1.elem hy
      obtain ⟨a0, a1, a2, a3, a4⟩ := (he.grow hbl).ro
      have d1 := c1
      rw [hp] at d1
      have HY := Lib.hid hy
      have HC1 := Lib.hid c1
      by_cases h20 : k ≤ 20
      · clear hy hp he c1
        go_wp2_with (go_at_call 34; refine (HC.out y _ ((HX.out.rs.2 y (getElem?_mem' HY.out)).grow hbl)).mono ?_; rintro e w' ⟨r, rfl, hg⟩; cases r)
        · exact ⟨⟨k + 1, by omega, by go_num, hbl.then hg, hg.keep HC1.out⟩, by simp [intOf]; omega⟩
        · go_ret
          exact .mk rfl (hbl.then hg)
      · clear hy hp he d1
        go_wp2_with fail
        go_ret
        exact .mk rfl hbl
    · obtain rfl : k = x.rs.length := by omega
      go_wp2_with fail
      go_ret
      exact .mk rfl hbl
end Go.Proofs.Ytflbiiflbehleaa
