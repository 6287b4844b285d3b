import Derived.Test.YtflbiiflbehleaaData
import Derived.Test.YtflbiiflbehleaaRows
namespace Go.Proofs.Ytflbiiflbehleaa
open Go.RowKit
/-- The greatest total. -/
def Most : Int := 1099511627776
theorem Most_eq : Most = 1099511627776 := rfl
/-- The total of a cost, and its error. -/
def total (a b c d : Int) : Int × Int := if 0 ≤ a ∧ 0 ≤ b ∧ 0 ≤ c ∧ 0 ≤ d ∧ a + b + c + d ≤ 1099511627776 then (a + b + c + d, 0) else (0, 8)
/-- What Total hands back. -/
def Totals (a b c d : Int) (w : World) (e : Ending) (w' : World) : Prop := e = .returned (.tuple #[.int .i64 (total a b c d).1, .int .i64 (total a b c d).2]) ∧ Grow w w'
theorem Totals.yes {a b c d x : Int} {w w' : World} (h : 0 ≤ a ∧ 0 ≤ b ∧ 0 ≤ c ∧ 0 ≤ d ∧ a + b + c + d ≤ 1099511627776) (hx : x = a + b + c + d) (g : Grow w w') : Totals a b c d w (.returned (.tuple #[.int .i64 x, .int .i64 0])) w' := by
  refine ⟨?_, g⟩; rw [hx, total, if_pos h]
theorem Totals.no {a b c d : Int} {w w' : World} (h : ¬ (0 ≤ a ∧ 0 ≤ b ∧ 0 ≤ c ∧ 0 ≤ d ∧ a + b + c + d ≤ 1099511627776)) (g : Grow w w') : Totals a b c d w (.returned (.tuple #[.int .i64 0, .int .i64 8])) w' := by
  refine ⟨?_, g⟩; rw [total, if_neg h]
set_option maxRecDepth 100000 in
set_option maxHeartbeats 1000000 in
theorem cost_Total (a b c d : Int) (w : World) : Calls Try.prog 30 #[.agg #[.int .i64 a, .int .i64 b, .int .i64 c, .int .i64 d]] w (Totals a b c d w) := by
  have i0 : ∀ w, (Instr.index 100 (.agg #[.int .i64 a, .int .i64 b, .int .i64 c, .int .i64 d]) (.int .i64 0)).run Try.prog w = .ok (.int .i64 a) w := fun _ => by kernel_rfl
  have i1 : ∀ w, (Instr.index 100 (.agg #[.int .i64 a, .int .i64 b, .int .i64 c, .int .i64 d]) (.int .i64 1)).run Try.prog w = .ok (.int .i64 b) w := fun _ => by kernel_rfl
  have i2 : ∀ w, (Instr.index 100 (.agg #[.int .i64 a, .int .i64 b, .int .i64 c, .int .i64 d]) (.int .i64 2)).run Try.prog w = .ok (.int .i64 c) w := fun _ => by kernel_rfl
  have i3 : ∀ w, (Instr.index 100 (.agg #[.int .i64 a, .int .i64 b, .int .i64 c, .int .i64 d]) (.int .i64 3)).run Try.prog w = .ok (.int .i64 d) w := fun _ => by kernel_rfl
  have HYES := Lib.hid (fun (x : Int) (w' : World) => @Totals.yes a b c d x w w')
  have HNO := Lib.hid (fun (w' : World) => @Totals.no a b c d w w')
  go_enter Try.func30, Try.ntmps30
  go_wp2_with fail
  refine wp_loop_rounds 5 ?_
  iterate 5
    all_goals try (rw [rounds_succ]; go_wp2_with fail)
    all_goals try (go_ret2; exact HNO.out _ (by omega) ((Below.refl _ _).alloc' _))
  all_goals
    go_ret2
    exact HYES.out _ _ (by omega) (by omega) ((Below.refl _ _).alloc' _)
set_option maxRecDepth 100000 in
set_option maxHeartbeats 1000000 in
theorem ref41_Total (a b c d : Int) (w : World) : Calls Try.prog 31 #[.agg #[.int .i64 a, .int .i64 b, .int .i64 c, .int .i64 d]] w (Totals a b c d w) := by
  have HYES := Lib.hid (fun (x : Int) (w' : World) => @Totals.yes a b c d x w w')
  have HNO := Lib.hid (fun (w' : World) => @Totals.no a b c d w w')
  go_enter Try.func31, Try.ntmps31
  go_wp2_with fail
  refine wp_loop_rounds 5 ?_
  iterate 5
    all_goals try (rw [rounds_succ]; go_wp2_with fail)
    all_goals try (go_ret2; exact HNO.out _ (by omega) (((Below.refl _ _).alloc' _).alloc' _))
  all_goals
    go_ret2
    exact HYES.out _ _ (by omega) (by omega) (((Below.refl _ _).alloc' _).alloc' _)
/-- The limit for so many bytes, and its error. -/
def limit (n : Int) : Int × Int := if 0 ≤ n ∧ n ≤ 200000 then (7 + n / 24 + n + 5000 * (16 * (n / 24) + n), 0) else (0, 2)
def Limits (n : Int) (w : World) (e : Ending) (w' : World) : Prop := e = .returned (.tuple #[.int .i64 (limit n).1, .int .i64 (limit n).2]) ∧ Grow w w'
theorem Limits.yes {n x : Int} {w w' : World} (h : 0 ≤ n ∧ n ≤ 200000) (hx : x = 7 + n / 24 + n + 5000 * (16 * (n / 24) + n)) (g : Grow w w') : Limits n w (.returned (.tuple #[.int .i64 x, .int .i64 0])) w' := by
  refine ⟨?_, g⟩; rw [hx, limit, if_pos h]
theorem Limits.no {n : Int} {w w' : World} (h : ¬ (0 ≤ n ∧ n ≤ 200000)) (g : Grow w w') : Limits n w (.returned (.tuple #[.int .i64 0, .int .i64 2])) w' := by
  refine ⟨?_, g⟩; rw [limit, if_neg h]
set_option maxRecDepth 100000 in
set_option maxHeartbeats 1000000 in
theorem cost_Limit (n : Int) (w : World) : Calls Try.prog 32 #[.int .i64 n] w (Limits n w) := by
  have HYES := Lib.hid (fun (x : Int) (w' : World) => @Limits.yes n x w w')
  have HNO := Lib.hid (fun (w' : World) => @Limits.no n w w')
  by_cases h : 0 ≤ n ∧ n ≤ 200000
  · obtain ⟨h1, h2⟩ := h
    go_enter Try.func32, Try.ntmps32
    go_wp2_with fail
    go_ret2
    exact HYES.out _ _ ⟨h1, h2⟩ rfl (Below.refl _ _)
  · have H := Lib.hid h
    have h' : n < 0 ∨ 200000 < n := by omega
    rcases h' with h' | h'
    all_goals
      clear h
      go_enter Try.func32, Try.ntmps32
      go_wp2_with fail
      go_ret2
      exact HNO.out _ H.out (Below.refl _ _)
set_option maxRecDepth 100000 in
set_option maxHeartbeats 1000000 in
theorem ref41_Limit (n : Int) (w : World) : Calls Try.prog 33 #[.int .i64 n] w (Limits n w) := by
  have HYES := Lib.hid (fun (x : Int) (w' : World) => @Limits.yes n x w w')
  have HNO := Lib.hid (fun (w' : World) => @Limits.no n w w')
  by_cases h : 0 ≤ n ∧ n ≤ 200000
  · obtain ⟨h1, h2⟩ := h
    go_enter Try.func33, Try.ntmps33
    go_wp2_with fail
    go_ret2
    exact HYES.out _ _ ⟨h1, h2⟩ rfl (Below.refl _ _)
  · have H := Lib.hid h
    have h' : n < 0 ∨ 200000 < n := by omega
    rcases h' with h' | h'
    all_goals
      clear h
      go_enter Try.func33, Try.ntmps33
      go_wp2_with fail
      go_ret2
      exact HNO.out _ H.out (Below.refl _ _)
end Go.Proofs.Ytflbiiflbehleaa
