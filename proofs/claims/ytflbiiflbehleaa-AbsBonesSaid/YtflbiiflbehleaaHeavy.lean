import Derived.Test.YtflbiiflbehleaaData
import Derived.Test.YtflbiiflbehleaaRows
namespace Go.Proofs.Ytflbiiflbehleaa
open Go.RowKit
/-- Some bool comes back. -/
def SomeBool (w : World) (e : Ending) (w' : World) : Prop := ∃ r : Bool, e = .returned (.bool r) ∧ Grow w w'
/-- Some int comes back. -/
def SomeInt (w : World) (e : Ending) (w' : World) : Prop := ∃ n : Int, e = .returned (.int .i64 n) ∧ Grow w w'
theorem SomeBool.mk {w w' : World} {v : Value} {r : Bool} (h : v = .bool r) (g : Grow w w') : SomeBool w (.returned v) w' := ⟨r, by rw [h], g⟩
theorem SomeInt.mk {w w' : World} {v : Value} {n : Int} (h : v = .int .i64 n) (g : Grow w w') : SomeInt w (.returned v) w' := ⟨n, by rw [h], g⟩
set_option maxRecDepth 100000 in
set_option maxHeartbeats 400000 in
theorem ref32_deep' (N : Nat) : ∀ (v : V) (m : Int) (w : World), v.size ≤ N → v.In w →
    Calls Try.prog 74 #[v.agg, .int .i64 m] w (SomeBool w) := by
  induction N with
  | zero => intro v m w hN; have := v.size_pos; omega
  | succ N ih =>
  intro v m w hN hv
  have HI := Lib.hid ih
  have HN := Lib.hid hN
  have HV := Lib.hid hv
  have hm := hv.lies.bound
  clear ih hN hv
  go_enter Try.func74, Try.ntmps74
  go_wp2_with fail
  go_loopw [5] (fun i wr => ∃ k : Nat, k ≤ v.l.length ∧ i = .int .i64 k ∧ Grow w wr ∧ wr.cell? ⟨w.heap.size, 3, none⟩ = some (.slice v.p v.l.length v.cap)) (fun i _ => v.l.length - (intOf i).toNat)
  case atStart => exact ⟨0, Nat.zero_le _, rfl, (Below.refl _ _).alloc' _, by go_simp⟩
  case round =>
    obtain ⟨k, hk, rfl, hbl, c1⟩ := hrel
    by_cases hlt : k < v.l.length
    · obtain ⟨x, hx⟩ : ∃ x, v.l[k]? = some x := ⟨_, List.getElem?_eq_getElem hlt⟩
      obtain ⟨b, o, hp, hb, he⟩ := HV.out.lies.elem hx
      rw [hp] at c1
      obtain ⟨a0, a1, a2, a3, a4⟩ := (he.grow hbl).v
      have HX := Lib.hid hx
      have HP := Lib.hid hp
      clear hx hp he
      have HC := Lib.hid (show ∀ n w1, Grow wr w1 → Calls Try.prog 74 #[x.agg, .int .i64 n] w1 (SomeBool w1) from fun n w1 g =>
        HI.out x n w1 (by have := V.size_lt (getElem?_mem' HX.out); have := HN.out; omega) ((HV.out.mem x (getElem?_mem' HX.out)).grow (hbl.then g)))
      cases h0 : (m == 0)
      · go_wp2_with (go_at_call 74; refine (HC.out _ _ (Below.refl _ _)).mono ?_; rintro e w' ⟨r, rfl, hg⟩; cases r)
        · exact ⟨⟨k + 1, by omega, by go_num, hbl.then hg, by rw [HP.out]; exact hg.keep c1⟩, by simp [intOf]; omega⟩
        · go_ret
          exact .mk rfl (hbl.then hg)
      · go_wp2_with fail
        go_ret
        exact .mk rfl hbl
    · obtain rfl : k = v.l.length := by omega
      go_wp2_with fail
      go_ret
      exact .mk rfl hbl
set_option maxRecDepth 100000 in
set_option maxHeartbeats 400000 in
theorem ref15_Count' (N : Nat) : ∀ (v : V) (m : Int) (w : World), v.size ≤ N → v.In w →
    Calls Try.prog 75 #[v.agg, .int .i64 m] w (SomeInt w) := by
  induction N with
  | zero => intro v m w hN; have := v.size_pos; omega
  | succ N ih =>
  intro v m w hN hv
  have HI := Lib.hid ih
  have HN := Lib.hid hN
  have HV := Lib.hid hv
  have hm := hv.lies.bound
  clear ih hN hv
  go_enter Try.func75, Try.ntmps75
  go_wp2_with fail
  go_loopw [5, 6] (fun n i wr => ∃ (k : Nat) (c : Int), k ≤ v.l.length ∧ i = .int .i64 k ∧ n = .int .i64 c ∧ Grow w wr ∧ wr.cell? ⟨w.heap.size, 3, none⟩ = some (.slice v.p v.l.length v.cap)) (fun _ i _ => v.l.length - (intOf i).toNat)
  case atStart => exact ⟨0, 1, Nat.zero_le _, rfl, rfl, (Below.refl _ _).alloc' _, by go_simp⟩
  case round =>
    obtain ⟨k, c, hk, rfl, rfl, hbl, c1⟩ := hrel
    by_cases hlt : k < v.l.length
    · obtain ⟨x, hx⟩ : ∃ x, v.l[k]? = some x := ⟨_, List.getElem?_eq_getElem hlt⟩
      obtain ⟨b, o, hp, hb, he⟩ := HV.out.lies.elem hx
      rw [hp] at c1
      obtain ⟨a0, a1, a2, a3, a4⟩ := (he.grow hbl).v
      have HX := Lib.hid hx
      have HP := Lib.hid hp
      clear hx hp he
      have HC := Lib.hid (show ∀ n w1, Grow wr w1 → Calls Try.prog 75 #[x.agg, .int .i64 n] w1 (SomeInt w1) from fun n w1 g =>
        HI.out x n w1 (by have := V.size_lt (getElem?_mem' HX.out); have := HN.out; omega) ((HV.out.mem x (getElem?_mem' HX.out)).grow (hbl.then g)))
      by_cases h0 : c ≤ m
      · go_wp2_with (go_at_call 75; refine (HC.out _ _ (Below.refl _ _)).mono ?_; rintro e w' ⟨r, rfl, hg⟩)
        exact ⟨⟨k + 1, _, by omega, by go_num, rfl, hbl.then hg, by rw [HP.out]; exact hg.keep c1⟩, by simp [intOf]; omega⟩
      · go_wp2_with fail
        go_ret
        exact .mk rfl hbl
    · obtain rfl : k = v.l.length := by omega
      go_wp2_with fail
      go_ret
      exact .mk rfl hbl
set_option maxRecDepth 100000 in
set_option maxHeartbeats 400000 in
theorem ref32_Heavy (v : V) (w : World) (hv : v.In w) : Calls Try.prog 60 #[v.agg] w (SomeBool w) := by
  have H1 := Lib.hid (show ∀ n w1, Grow w w1 → Calls Try.prog 74 #[v.agg, .int .i64 n] w1 (SomeBool w1) from fun n w1 g => ref32_deep' v.size v n w1 (Nat.le_refl _) (hv.grow g))
  have H2 := Lib.hid (show ∀ n w1, Grow w w1 → Calls Try.prog 75 #[v.agg, .int .i64 n] w1 (SomeInt w1) from fun n w1 g => ref15_Count' v.size v n w1 (Nat.le_refl _) (hv.grow g))
  clear hv
  go_enter Try.func60, Try.ntmps60
  go_wp2_with (first
    | (go_at_call 74; refine (H1.out _ _ ((Below.refl _ _).alloc' _)).mono ?_; rintro e w1 ⟨r, rfl, hg⟩; have c0 := hg.keep (p := ⟨w.heap.size, 0, none⟩) (v := .int .u8 v.k) (by go_simp); have c1 := hg.keep (p := ⟨w.heap.size, 1, none⟩) (v := .int .i64 v.n) (by go_simp); have c2 := hg.keep (p := ⟨w.heap.size, 2, none⟩) (v := .string v.t) (by go_simp); have c3 := hg.keep (p := ⟨w.heap.size, 3, none⟩) (v := .slice v.p v.l.length v.cap) (by go_simp); have c4 := hg.keep (p := ⟨w.heap.size, 4, none⟩) (v := .bool v.c) (by go_simp); cases r)
    | (go_at_call 75; refine (H2.out _ _ (((Below.refl _ _).alloc' _).then hg)).mono ?_; rintro e w2 ⟨n, rfl, hg2⟩))
  · go_ret
    exact .mk rfl ((((Below.refl _ _).alloc' _).then hg).then hg2)
  · go_ret
    exact .mk rfl (((Below.refl _ _).alloc' _).then hg)
end Go.Proofs.Ytflbiiflbehleaa
