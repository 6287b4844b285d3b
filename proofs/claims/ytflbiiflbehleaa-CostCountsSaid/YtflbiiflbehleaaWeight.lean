import Derived.Test.YtflbiiflbehleaaData
import Derived.Test.YtflbiiflbehleaaRows
import Derived.OneCell
namespace Go.Proofs.Ytflbiiflbehleaa
open Go.RowKit
theorem wrap64_add_left (a b : Int) : wrap64 (wrap64 a + b) = wrap64 (a + b) := by unfold wrap64; omega
theorem wrap64_add_right (a b : Int) : wrap64 (a + wrap64 b) = wrap64 (a + b) := by unfold wrap64; omega
theorem wrap64_small {a : Int} (h0 : 0 ≤ a) (h1 : a ≤ 9223372036854775807) : wrap64 a = a := IntWalk.wrap64_in a ⟨by omega, h1⟩
/-- The sizes of the first k of a list of values. -/
def V.upto (l : List V) (k : Nat) : Nat := V.sizes (l.take k)
theorem V.upto_succ {l : List V} {k : Nat} {x : V} (h : l[k]? = some x) : V.upto l (k + 1) = V.upto l k + x.size := by
  have hs : ∀ (a b : List V), V.sizes (a ++ b) = V.sizes a + V.sizes b := by
    intro a b
    induction a with
    | nil => simp [V.sizes]
    | cons y r ih => simp only [List.cons_append, V.sizes, ih]; omega
  unfold V.upto
  rw [List.take_add_one, h, hs]
  simp [V.sizes]
theorem V.upto_all (v : V) : V.upto v.l v.l.length + 1 = v.size := by
  cases v; simp [V.upto, V.size, V.l]
set_option maxRecDepth 100000 in
set_option maxHeartbeats 400000 in
theorem ref32_Weight' (N : Nat) : ∀ (v : V) (w : World), v.size ≤ N → v.In w →
    Calls Try.prog 59 #[v.agg] w fun e w' => e = .returned (.int .i64 (wrap64 v.size)) ∧ Grow w w' := by
  induction N with
  | zero => intro v w hN; have := v.size_pos; omega
  | succ N ih =>
  intro v w hN hv
  have HI := Lib.hid ih
  have HN := Lib.hid hN
  have HV := Lib.hid hv
  have hm := hv.lies.bound
  clear ih hN hv
  go_enter Try.func59, Try.ntmps59
  go_wp2_with fail
  go_loopw [3, 4] (fun n i wr => ∃ k : Nat, k ≤ v.l.length ∧ i = .int .i64 k ∧ n = .int .i64 (wrap64 ((1 : Int) + V.upto v.l k)) ∧ Grow w wr ∧ wr.cell? ⟨w.heap.size, 3, none⟩ = some (.slice v.p v.l.length v.cap)) (fun _ i _ => v.l.length - (intOf i).toNat)
  case atStart => exact ⟨0, Nat.zero_le _, rfl, by simp [V.upto, V.sizes, wrap64_small], (Below.refl _ _).alloc' _, by go_simp⟩
  case round =>
    obtain ⟨k, hk, rfl, rfl, hbl, c1⟩ := hrel
    by_cases hlt : k < v.l.length
    · obtain ⟨x, hx⟩ : ∃ x, v.l[k]? = some x := ⟨_, List.getElem?_eq_getElem hlt⟩
      obtain ⟨b, o, hp, hb, he⟩ := HV.out.lies.elem hx
      rw [hp] at c1
      obtain ⟨a0, a1, a2, a3, a4⟩ := (he.grow hbl).v
      have HX := Lib.hid hx
      have HP := Lib.hid hp
      clear hx hp he
      have HC := Lib.hid (show ∀ w1, Grow wr w1 → Calls Try.prog 59 #[x.agg] w1 fun e w' => e = .returned (.int .i64 (wrap64 x.size)) ∧ Grow w1 w' from fun w1 g =>
        HI.out x w1 (by have := V.size_lt (getElem?_mem' HX.out); have := HN.out; omega) ((HV.out.mem x (getElem?_mem' HX.out)).grow (hbl.then g)))
      generalize hW : wrap64 ((1 : Int) + V.upto v.l k) = W
      generalize hX : wrap64 (x.size : Int) = X at HC
      have HW := Lib.hid hW
      have HXX := Lib.hid hX
      clear hW hX
      go_wp2_with (go_at_call 59; refine (HC.out _ (Below.refl _ _)).mono ?_; rintro e w' ⟨rfl, hg⟩)
      exact ⟨⟨k + 1, by omega, by go_num, by rw [← HW.out, ← HXX.out, wrap64_add_left, wrap64_add_right, V.upto_succ HX.out]; congr 2; omega, hbl.then hg, by rw [HP.out]; exact hg.keep c1⟩, by simp [intOf]; omega⟩
    · obtain rfl : k = v.l.length := by omega
      go_wp2_with fail
      go_ret
      exact ⟨by rw [← V.upto_all v]; show Ending.returned (Value.int .i64 (wrap64 (1 + (V.upto v.l v.l.length : Int)))) = _; congr 3; omega, hbl⟩
theorem ref32_Weight (v : V) (w : World) (hv : v.In w) :
    Calls Try.prog 59 #[v.agg] w fun e w' => e = .returned (.int .i64 (wrap64 v.size)) ∧ Grow w w' :=
  ref32_Weight' v.size v w (Nat.le_refl _) hv
end Go.Proofs.Ytflbiiflbehleaa
