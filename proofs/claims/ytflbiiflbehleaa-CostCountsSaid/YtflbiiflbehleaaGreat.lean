import Derived.Test.YtflbiiflbehleaaHeavy
namespace Go.Proofs.Ytflbiiflbehleaa
open Go.RowKit
set_option maxRecDepth 100000 in
set_option maxHeartbeats 400000 in
theorem ref38_deep' (N : Nat) : ∀ (v : V) (m : Int) (w : World), v.size ≤ N → v.In w →
    Calls Try.prog 77 #[v.agg, .int .i64 m] w (SomeBool w) := by
  induction N with
  | zero => intro v m w hN; have := v.size_pos; omega
  | succ N ih =>
  intro v m w hN hv
  have HI := Lib.hid ih
  have HN := Lib.hid hN
  have HV := Lib.hid hv
  have hm := hv.lies.bound
  clear ih hN hv
  by_cases hz : (m == 0) = false ∧ v.t.size ≤ 100 ∧ v.l.length ≤ 400
  case neg =>
    clear HI HN HV
    by_cases h1 : (m == 0) = true
    · go_enter Try.func77, Try.ntmps77
      go_wp2_with fail
      go_ret
      exact .mk rfl ((Below.refl _ _).alloc' _)
    · have h2 : (m == 0) = false := by simpa using h1
      by_cases h3 : v.t.size ≤ 100
      · have h4 : 400 < v.l.length := Nat.lt_of_not_le fun h4 => hz ⟨h2, h3, h4⟩
        clear hz h1
        go_enter Try.func77, Try.ntmps77
        go_wp2_with fail
        go_ret
        exact .mk rfl ((Below.refl _ _).alloc' _)
      · clear hz h1
        go_enter Try.func77, Try.ntmps77
        go_wp2_with fail
        go_ret
        exact .mk rfl ((Below.refl _ _).alloc' _)
  obtain ⟨hz1, hz2, hz3⟩ := hz
  go_enter Try.func77, Try.ntmps77
  go_wp2_with fail
  go_loopw [5] (fun i wr => ∃ k : Nat, k ≤ v.l.length ∧ i = .int .i64 k ∧ Grow w wr ∧ wr.cell? ⟨w.heap.size, 3, none⟩ = some (.slice v.p v.l.length v.cap)) (fun i _ => v.l.length - (intOf i).toNat)
  case atStart => exact ⟨0, Nat.zero_le _, rfl, (Below.refl _ _).alloc' _, by go_simp⟩
  case round =>
    obtain ⟨k, hk, rfl, hbl, c1⟩ := hrel
    by_cases hlt : k < v.l.length
    · obtain ⟨x, hx⟩ : ∃ x, v.l[k]? = some x := ⟨_, List.getElem?_eq_getElem hlt⟩
      obtain ⟨b, o, hp, hb, he⟩ := HV.out.lies.elem hx
      rw [hp] at c1
      obtain ⟨a0, a1, a2, a3, a4⟩ := (he.grow hbl).v
      have HX := Lib.hid hx
      have HP := Lib.hid hp
      clear hx hp he
      have HC := Lib.hid (show ∀ n w1, Grow wr w1 → Calls Try.prog 77 #[x.agg, .int .i64 n] w1 (SomeBool w1) from fun n w1 g =>
        HI.out x n w1 (by have := V.size_lt (getElem?_mem' HX.out); have := HN.out; omega) ((HV.out.mem x (getElem?_mem' HX.out)).grow (hbl.then g)))
      go_wp2_with (go_at_call 77; refine (HC.out _ _ (Below.refl _ _)).mono ?_; rintro e w' ⟨r, rfl, hg⟩; cases r)
      · exact ⟨⟨k + 1, by omega, by go_num, hbl.then hg, by rw [HP.out]; exact hg.keep c1⟩, by simp [intOf]; omega⟩
      · go_ret
        exact .mk rfl (hbl.then hg)
    · obtain rfl : k = v.l.length := by omega
      go_wp2_with fail
      go_ret
      exact .mk rfl hbl
set_option maxRecDepth 100000 in
set_option maxHeartbeats 400000 in
theorem ref38_Nodes' (N : Nat) : ∀ (v : V) (w : World), v.size ≤ N → v.In w →
    Calls Try.prog 78 #[v.agg] w (SomeInt w) := by
  induction N with
  | zero => intro v w hN; have := v.size_pos; omega
  | succ N ih =>
  intro v w hN hv
  have HI := Lib.hid ih
  have HN := Lib.hid hN
  have HV := Lib.hid hv
  have hm := hv.lies.bound
  clear ih hN hv
  go_enter Try.func78, Try.ntmps78
  go_wp2_with fail
  go_loopw [3, 4] (fun n i wr => ∃ (k : Nat) (c : Int), k ≤ v.l.length ∧ i = .int .i64 k ∧ n = .int .i64 c ∧ Grow w wr ∧ wr.cell? ⟨w.heap.size, 3, none⟩ = some (.slice v.p v.l.length v.cap)) (fun _ i _ => v.l.length - (intOf i).toNat)
  case atStart => exact ⟨0, 1, Nat.zero_le _, rfl, rfl, (Below.refl _ _).alloc' _, by go_simp⟩
  case round =>
    obtain ⟨k, c, hk, rfl, rfl, hbl, c1⟩ := hrel
    by_cases hlt : k < v.l.length
    · obtain ⟨x, hx⟩ : ∃ x, v.l[k]? = some x := ⟨_, List.getElem?_eq_getElem hlt⟩
      obtain ⟨b, o, hp, hb, he⟩ := HV.out.lies.elem hx
      rw [hp] at c1
      obtain ⟨a0, a1, a2, a3, a4⟩ := (he.grow hbl).v
      have HX := Lib.hid hx
      have HP := Lib.hid hp
      clear hx hp he
      have HC := Lib.hid (show ∀ w1, Grow wr w1 → Calls Try.prog 78 #[x.agg] w1 (SomeInt w1) from fun w1 g =>
        HI.out x w1 (by have := V.size_lt (getElem?_mem' HX.out); have := HN.out; omega) ((HV.out.mem x (getElem?_mem' HX.out)).grow (hbl.then g)))
      by_cases h0 : c ≤ 5000
      · go_wp2_with (go_at_call 78; refine (HC.out _ (Below.refl _ _)).mono ?_; rintro e w' ⟨r, rfl, hg⟩)
        exact ⟨⟨k + 1, _, by omega, by go_num, rfl, hbl.then hg, by rw [HP.out]; exact hg.keep c1⟩, by simp [intOf]; omega⟩
      · go_wp2_with fail
        go_ret
        exact .mk rfl hbl
    · obtain rfl : k = v.l.length := by omega
      go_wp2_with fail
      go_ret
      exact .mk rfl hbl
set_option maxRecDepth 100000 in
set_option maxHeartbeats 400000 in
theorem ref38_Great (v : V) (w : World) (hv : v.In w) : Calls Try.prog 72 #[v.agg] w (SomeBool w) := by
  have H1 := Lib.hid (show ∀ n w1, Grow w w1 → Calls Try.prog 77 #[v.agg, .int .i64 n] w1 (SomeBool w1) from fun n w1 g => ref38_deep' v.size v n w1 (Nat.le_refl _) (hv.grow g))
  have H2 := Lib.hid (show ∀ w1, Grow w w1 → Calls Try.prog 78 #[v.agg] w1 (SomeInt w1) from fun w1 g => ref38_Nodes' v.size v w1 (Nat.le_refl _) (hv.grow g))
  clear hv
  go_enter Try.func72, Try.ntmps72
  go_wp2_with (first
    | (go_at_call 77; refine (H1.out _ _ ((Below.refl _ _).alloc' _)).mono ?_; rintro e w1 ⟨r, rfl, hg⟩; have c0 := hg.keep (p := ⟨w.heap.size, 0, none⟩) (v := .int .u8 v.k) (by go_simp); have c1 := hg.keep (p := ⟨w.heap.size, 1, none⟩) (v := .int .i64 v.n) (by go_simp); have c2 := hg.keep (p := ⟨w.heap.size, 2, none⟩) (v := .string v.t) (by go_simp); have c3 := hg.keep (p := ⟨w.heap.size, 3, none⟩) (v := .slice v.p v.l.length v.cap) (by go_simp); have c4 := hg.keep (p := ⟨w.heap.size, 4, none⟩) (v := .bool v.c) (by go_simp); cases r)
    | (go_at_call 78; refine (H2.out _ (((Below.refl _ _).alloc' _).then hg)).mono ?_; rintro e w2 ⟨n, rfl, hg2⟩))
  · go_ret
    exact .mk rfl ((((Below.refl _ _).alloc' _).then hg).then hg2)
  · go_ret
    exact .mk rfl (((Below.refl _ _).alloc' _).then hg)
set_option maxRecDepth 100000 in
set_option maxHeartbeats 1000000 in
theorem ref38_GreatFrame (x : Fr) (w : World) (hx : x.In w) : Calls Try.prog 71 #[x.agg] w (SomeBool w) := by
  have HX := Lib.hid hx
  have m0 := hx.ls.1.bound
  clear hx
  have HC := Lib.hid (show ∀ (v : V) w1, v.In w1 → Calls Try.prog 72 #[v.agg] w1 (SomeBool w1) from fun v w1 h => ref38_Great v w1 h)
  go_enter Try.func71, Try.ntmps71
  go_wp2_with fail
  go_loopw [3] (fun i wr => ∃ k : Nat, k ≤ x.ls.length ∧ i = .int .i64 k ∧ Grow w wr ∧ wr.cell? ⟨w.heap.size, 3, none⟩ = some (.slice x.lsP x.ls.length x.lsC)) (fun i _ => x.ls.length - (intOf i).toNat)
  case atStart => exact ⟨0, Nat.zero_le _, rfl, (Below.refl _ _).alloc' _, by go_simp⟩
  case round =>
    obtain ⟨k, hk, rfl, hbl, c3⟩ := hrel
    by_cases hlt : k < x.ls.length
    · obtain ⟨y, hy⟩ : ∃ y, x.ls[k]? = some y := ⟨_, List.getElem?_eq_getElem hlt⟩
      obtain ⟨b, o, hp, hb, he⟩ := HX.out.ls.1.elem hy
      obtain ⟨a0, a1, a2, a3, a4, a5⟩ := (he.grow hbl).loc
      have e0 := c3
      rw [hp] at e0
      have HY := Lib.hid hy
      have HC0 := Lib.hid c3
      by_cases hlim : k ≤ 20
      · clear hy hp he c3
        go_wp2_with (go_at_call 72; refine (HC.out y.v _ ((HX.out.ls.2 y (getElem?_mem' HY.out)).v.grow hbl)).mono ?_; rintro e w' ⟨r, rfl, hg⟩; cases r)
        · exact ⟨⟨k + 1, by omega, by go_num, hbl.then hg, hg.keep HC0.out⟩, by simp [intOf]; omega⟩
        · go_ret
          exact .mk rfl (hbl.then hg)
      · clear hy hp he e0
        go_wp2_with fail
        go_ret
        exact .mk rfl hbl
    · obtain rfl : k = x.ls.length := by omega
      go_wp2_with fail
      go_ret
      exact .mk rfl hbl
set_option maxRecDepth 100000 in
set_option maxHeartbeats 1000000 in
theorem ref39_Great (p : Option Addr) (cap : Nat) (l : List Pn) (w : World) (hl : Lies w p cap 7 Pn.cells l) (hi : ∀ y, y ∈ l → Pn.In w y) : Calls Try.prog 70 #[.slice p l.length cap] w (SomeBool w) := by
  have HL := Lib.hid hl
  have HI := Lib.hid hi
  have hm := hl.bound
  clear hl hi
  have HC := Lib.hid (show ∀ (v : V) w1, v.In w1 → Calls Try.prog 72 #[v.agg] w1 (SomeBool w1) from fun v w1 h => ref38_Great v w1 h)
  go_enter Try.func70, Try.ntmps70
  go_wp2_with fail
  all_goals try (go_ret; exact .mk rfl (Below.refl _ _))
  all_goals
    go_loopw [3] (fun i wr => ∃ k : Nat, k ≤ l.length ∧ i = .int .i64 k ∧ Grow w wr) (fun i _ => l.length - (intOf i).toNat)
    case atStart => exact ⟨0, Nat.zero_le _, rfl, Below.refl _ _⟩
    case round =>
      obtain ⟨k, hk, rfl, hbl⟩ := hrel
      by_cases hlt : k < l.length
      · obtain ⟨y, hy⟩ : ∃ y, l[k]? = some y := ⟨_, List.getElem?_eq_getElem hlt⟩
        obtain ⟨b, o, rfl, hb, he⟩ := HL.out.elem hy
        obtain ⟨a0, a1, a2, a3, a4, a5, a6⟩ := (he.grow hbl).pn
        have HY := Lib.hid hy
        clear hy he
        go_wp2_with (go_at_call 72; refine (HC.out y.v _ ((HI.out y (getElem?_mem' HY.out)).v.grow hbl)).mono ?_; rintro e w' ⟨r, rfl, hg⟩; cases r)
        · exact ⟨⟨k + 1, by omega, by go_num, hbl.then hg⟩, by simp [intOf]; omega⟩
        · go_ret
          exact .mk rfl (hbl.then hg)
      · obtain rfl : k = l.length := by omega
        go_wp2_with fail
        go_ret
        exact .mk rfl hbl
set_option maxRecDepth 100000 in
set_option maxHeartbeats 1000000 in
theorem ref40_GreatRoutine (x : Ro) (w : World) (hx : x.In w) : Calls Try.prog 56 #[x.agg] w (SomeBool w) := by
  have HX := Lib.hid hx
  have m0 := hx.fs.1.bound
  have m1 := hx.ds.1.bound
  have m2 := hx.ps.1.bound
  have HP := Lib.hid (show ∀ w1, Grow w w1 → Calls Try.prog 70 #[.slice x.psP x.ps.length x.psC] w1 (SomeBool w1) from fun w1 g => ref39_Great _ _ _ w1 (hx.ps.1.grow g) fun y hy => (hx.ps.2 y hy).grow g)
  clear hx
  have HC := Lib.hid (show ∀ (v : Fr) w1, v.In w1 → Calls Try.prog 71 #[v.agg] w1 (SomeBool w1) from fun v w1 h => ref38_GreatFrame v w1 h)
  have HD := Lib.hid (show ∀ (v : V) w1, v.In w1 → Calls Try.prog 72 #[v.agg] w1 (SomeBool w1) from fun v w1 h => ref38_Great v w1 h)
  go_enter Try.func56, Try.ntmps56
  go_wp2_with (go_at_call 70; refine (HP.out _ ((Below.refl _ _).alloc' _)).mono ?_; rintro e w1 ⟨r, rfl, hg1⟩; cases r)
  all_goals try (go_ret; first | exact .mk rfl ((Below.refl _ _).alloc' _) | exact .mk rfl (((Below.refl _ _).alloc' _).then hg1))
  have GG := ((Below.refl w.heap.size w).alloc' _).then hg1
  go_loopw [3] (fun i wr => ∃ k : Nat, k ≤ x.fs.length ∧ i = .int .i64 k ∧ Grow w wr ∧ wr.cell? ⟨w.heap.size, 2, none⟩ = some (.slice x.fsP x.fs.length x.fsC) ∧ wr.cell? ⟨w.heap.size, 3, none⟩ = some (.slice x.dsP x.ds.length x.dsC)) (fun i _ => x.fs.length - (intOf i).toNat)
  case atStart => exact ⟨0, Nat.zero_le _, rfl, GG, hg1.keep (p := ⟨w.heap.size, 2, none⟩) (v := .slice x.fsP x.fs.length x.fsC) (by go_simp), hg1.keep (p := ⟨w.heap.size, 3, none⟩) (v := .slice x.dsP x.ds.length x.dsC) (by go_simp)⟩
  case round =>
    obtain ⟨k, hk, rfl, hbl, c2, c3⟩ := hrel
    by_cases hlt : k < x.fs.length
    · obtain ⟨y, hy⟩ : ∃ y, x.fs[k]? = some y := ⟨_, List.getElem?_eq_getElem hlt⟩
      obtain ⟨b, o, hp, hb, he⟩ := HX.out.fs.1.elem hy
      obtain ⟨a0, a1, a2, a3⟩ := (he.grow hbl).fr
      have e0 := c2
      rw [hp] at e0
      have HY := Lib.hid hy
      have HC0 := Lib.hid c2
      clear hy hp he c2
      go_wp2_with (go_at_call 71; refine (HC.out y _ ((HX.out.fs.2 y (getElem?_mem' HY.out)).grow hbl)).mono ?_; rintro e w' ⟨r, rfl, hg⟩; cases r)
      · exact ⟨⟨k + 1, by omega, by go_num, hbl.then hg, hg.keep HC0.out, hg.keep c3⟩, by simp [intOf]; omega⟩
      · go_ret
        exact .mk rfl (hbl.then hg)
    · obtain rfl : k = x.fs.length := by omega
      go_wp2_with fail
      go_loopw [4] (fun i wr => ∃ k : Nat, k ≤ x.ds.length ∧ i = .int .i64 k ∧ Grow w wr ∧ wr.cell? ⟨w.heap.size, 3, none⟩ = some (.slice x.dsP x.ds.length x.dsC)) (fun i _ => x.ds.length - (intOf i).toNat)
      case atStart => exact ⟨0, Nat.zero_le _, rfl, hbl, c3⟩
      case round =>
        clear hbl c2 c3
        obtain ⟨k, hk, rfl, hbl, c3⟩ := hrel
        by_cases hlt : k < x.ds.length
        · obtain ⟨y, hy⟩ : ∃ y, x.ds[k]? = some y := ⟨_, List.getElem?_eq_getElem hlt⟩
          obtain ⟨b, o, hp, hb, he⟩ := HX.out.ds.1.elem hy
          obtain ⟨a0, a1, a2, a3, a4, a5, a6, a7⟩ := (he.grow hbl).df
          have e0 := c3
          rw [hp] at e0
          have HY := Lib.hid hy
          have HC0 := Lib.hid c3
          clear hy hp he c3
          go_wp2_with (go_at_call 72; refine (HD.out y.arg _ ((HX.out.ds.2 y (getElem?_mem' HY.out)).arg.grow hbl)).mono ?_; rintro e w' ⟨r, rfl, hg⟩; cases r)
          · exact ⟨⟨k + 1, by omega, by go_num, hbl.then hg, hg.keep HC0.out⟩, by simp [intOf]; omega⟩
          · go_ret
            exact .mk rfl (hbl.then hg)
        · obtain rfl : k = x.ds.length := by omega
          go_wp2_with fail
          go_ret
          exact .mk rfl hbl
set_option maxRecDepth 100000 in
set_option maxHeartbeats 1000000 in
theorem ref40_Great (x : St) (w : World) (hx : x.In w) : Calls Try.prog 27 #[x.agg] w (SomeBool w) := by
  have HX := Lib.hid hx
  have m0 := hx.rs.1.bound
  clear hx
  have HC := Lib.hid (show ∀ (v : Ro) w1, v.In w1 → Calls Try.prog 56 #[v.agg] w1 (SomeBool w1) from fun v w1 h => ref40_GreatRoutine v w1 h)
  go_enter Try.func27, Try.ntmps27
  go_wp2_with fail
  go_loopw [3] (fun i wr => ∃ k : Nat, k ≤ x.rs.length ∧ i = .int .i64 k ∧ Grow w wr ∧ wr.cell? ⟨w.heap.size, 3, none⟩ = some (.slice x.rsP x.rs.length x.rsC)) (fun i _ => x.rs.length - (intOf i).toNat)
  case atStart => exact ⟨0, Nat.zero_le _, rfl, (Below.refl _ _).alloc' _, by go_simp⟩
  case round =>
    obtain ⟨k, hk, rfl, hbl, c3⟩ := hrel
    by_cases hlt : k < x.rs.length
    · obtain ⟨y, hy⟩ : ∃ y, x.rs[k]? = some y := ⟨_, List.getElem?_eq_getElem hlt⟩
      obtain ⟨b, o, hp, hb, he⟩ := HX.out.rs.1.elem hy
      obtain ⟨a0, a1, a2, a3, a4⟩ := (he.grow hbl).ro
      have e0 := c3
      rw [hp] at e0
      have HY := Lib.hid hy
      have HC0 := Lib.hid c3
      by_cases hlim : k ≤ 20
      · clear hy hp he c3
        go_wp2_with (go_at_call 56; refine (HC.out y _ ((HX.out.rs.2 y (getElem?_mem' HY.out)).grow hbl)).mono ?_; rintro e w' ⟨r, rfl, hg⟩; cases r)
        · exact ⟨⟨k + 1, by omega, by go_num, hbl.then hg, hg.keep HC0.out⟩, by simp [intOf]; omega⟩
        · go_ret
          exact .mk rfl (hbl.then hg)
      · clear hy hp he e0
        go_wp2_with fail
        go_ret
        exact .mk rfl hbl
    · obtain rfl : k = x.rs.length := by omega
      go_wp2_with fail
      go_ret
      exact .mk rfl hbl
end Go.Proofs.Ytflbiiflbehleaa
