import Derived.Test.YtflbiiflbehleaaChanged
namespace Go.Proofs.Ytflbiiflbehleaa
open Go.RowKit
set_option maxRecDepth 100000 in
set_option maxHeartbeats 1000000 in
theorem ref36_SameInts (p q : Option Addr) (cap cap' : Nat) (l : List Int) (w : World) (hp : Its w p cap l) (hq : Its w q cap' l) :
    Calls Try.prog 26 #[.slice p l.length cap, .slice q l.length cap'] w fun e w' => e = .returned (.bool true) ∧ Grow w w' := by
  have hb := hp.le
  have hb2 := hq.le
  have HP := Lib.hid hp
  have HQ := Lib.hid hq
  clear hp hq
  by_cases h0 : 0 < l.length
  case neg =>
    obtain rfl : l = [] := by simpa using h0
    clear HP HQ
    simp only [List.length_nil] at *
    go_enter Try.func26, Try.ntmps26
    go_wp2_with fail
    go_loopw [5] (fun i wr => i = .int .i64 0 ∧ Grow w wr) (fun i _ => 0)
    case atStart => exact ⟨rfl, Below.refl _ _⟩
    case round =>
      obtain ⟨rfl, hbl⟩ := hrel
      go_wp2_with fail
      go_ret
      exact ⟨rfl, hbl⟩
  obtain ⟨b1, o1, rfl, z1, e1⟩ := HP.out.place h0
  obtain ⟨b2, o2, rfl, z2, e2⟩ := HQ.out.place h0
  have E1 := Lib.hid e1
  have E2 := Lib.hid e2
  clear e1 e2 HP HQ
  go_enter Try.func26, Try.ntmps26
  go_wp2_with fail
  go_loopw [5] (fun i wr => ∃ k : Nat, k ≤ l.length ∧ i = .int .i64 k ∧ Grow w wr) (fun i _ => l.length - (intOf i).toNat)
  case atStart => exact ⟨0, Nat.zero_le _, rfl, Below.refl _ _⟩
  case round =>
    obtain ⟨k, hk, rfl, hbl⟩ := hrel
    by_cases hlt : k < l.length
    · have c1 := fun d : Later wr => d.h.keep (hbl.keep (E1.out k hlt))
      have c2 := fun d : Later wr => d.h.keep (hbl.keep (E2.out k hlt))
      obtain ⟨z, hz⟩ : ∃ z, z = l.getD k 0 := ⟨_, rfl⟩
      rw [← hz] at c1 c2
      clear hz
      go_wp2_with fail
      refine wp_region_later (by kernel_rfl) (by kernel_rfl) ?_
      repeat (go_big_quiet_step (fail))
      refine wpQuiet_nil ?_
      rintro _ ⟨d, rfl⟩
      have GD := Lib.hid (hbl.then d.h)
      clear c1 c2
      go_wp2_with fail
      exact ⟨⟨k + 1, by omega, by go_num, GD.out⟩, by simp [intOf]; omega⟩
    · obtain rfl : k = l.length := by omega
      go_wp2_with fail
      go_ret
      exact ⟨rfl, hbl⟩
end Go.Proofs.Ytflbiiflbehleaa
