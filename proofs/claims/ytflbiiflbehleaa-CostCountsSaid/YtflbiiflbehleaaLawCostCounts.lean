/- wreckagelaw41.CostCounts returns true for every input, and leaves its arguments as they were. No condition. -/
import Derived.Test.YtflbiiflbehleaaGreat
import Derived.Test.YtflbiiflbehleaaCost5
import Derived.Test.YtflbiiflbehleaaCost6
namespace Go.Proofs.Ytflbiiflbehleaa
open Go.RowKit
set_option maxRecDepth 100000 in
set_option maxHeartbeats 2000000 in
theorem costCounts_walk (s : St) (a b c d n : Int) (w : World) (hs : s.In w) :
    Calls Try.prog 6 #[s.agg, .agg #[.int .i64 a, .int .i64 b, .int .i64 c, .int .i64 d], .int .i64 n] w fun e w' => e = .returned (.bool true) ∧ Grow w w' := by
  have HS := Lib.hid hs
  clear hs
  have G0 := Lib.hid (show Grow w ((w.alloc (.cells #[.int .u8 s.out, .int .i64 s.failing, .int .i64 s.steps, .slice s.rsP s.rs.length s.rsC] 24)).alloc (.cells #[.int .i64 a, .int .i64 b, .int .i64 c, .int .i64 d] 51)) from ((Below.refl _ _).alloc' _).alloc' _)
  go_enter Try.func6, Try.ntmps6
  go_wp2_with fail
  refine (ref40_Great s _ (HS.out.grow G0.out)).mono ?_
  rintro e w1 ⟨r, rfl, hg1⟩
  have s0 := hg1.keep (p := ⟨w.heap.size, 0, none⟩) (v := .int .u8 s.out) (by go_simp)
  have s1 := hg1.keep (p := ⟨w.heap.size, 1, none⟩) (v := .int .i64 s.failing) (by go_simp)
  have s2 := hg1.keep (p := ⟨w.heap.size, 2, none⟩) (v := .int .i64 s.steps) (by go_simp)
  have s3 := hg1.keep (p := ⟨w.heap.size, 3, none⟩) (v := .slice s.rsP s.rs.length s.rsC) (by go_simp)
  have c0 := hg1.keep (p := ⟨w.heap.size + 1, 0, none⟩) (v := .int .i64 a) (by go_simp)
  have c1 := hg1.keep (p := ⟨w.heap.size + 1, 1, none⟩) (v := .int .i64 b) (by go_simp)
  have c2 := hg1.keep (p := ⟨w.heap.size + 1, 2, none⟩) (v := .int .i64 c) (by go_simp)
  have c3 := hg1.keep (p := ⟨w.heap.size + 1, 3, none⟩) (v := .int .i64 d) (by go_simp)
  have G1 := Lib.hid (G0.out.then hg1)
  clear G0 hg1
  cases r
  case true =>
    go_wp2_with fail
    go_ret
    exact ⟨rfl, G1.out⟩
  go_wp2_with fail
  refine (cost_State s _ (HS.out.grow G1.out)).mono ?_
  rintro e w2 ⟨rfl, hg2⟩
  replace s0 := hg2.keep s0
  replace s1 := hg2.keep s1
  replace s2 := hg2.keep s2
  replace s3 := hg2.keep s3
  replace c0 := hg2.keep c0
  replace c1 := hg2.keep c1
  replace c2 := hg2.keep c2
  replace c3 := hg2.keep c3
  have G2 := Lib.hid (G1.out.then hg2)
  have z0 : w.heap.size < w2.heap.size := cell_lt s0
  have z1 : w.heap.size + 1 < w2.heap.size := cell_lt c0
  clear G1 hg2
  have GA := Lib.hid (show Grow w2 (w2.alloc (.cells #[.int .i64 s.S, .int .i64 s.F, .int .i64 s.R, .int .i64 s.W] 51)) from (Below.refl _ _).alloc' _)
  go_wp2_with fail
  refine (ref41_State s _ (HS.out.grow (G2.out.then GA.out))).mono ?_
  rintro e w3 ⟨rfl, hg3⟩
  have k0 := hg3.keep (p := ⟨w2.heap.size, 0, none⟩) (v := .int .i64 s.S) (by go_simp)
  have k1 := hg3.keep (p := ⟨w2.heap.size, 1, none⟩) (v := .int .i64 s.F) (by go_simp)
  have k2 := hg3.keep (p := ⟨w2.heap.size, 2, none⟩) (v := .int .i64 s.R) (by go_simp)
  have k3 := hg3.keep (p := ⟨w2.heap.size, 3, none⟩) (v := .int .i64 s.W) (by go_simp)
  have g23 := GA.out.then hg3
  replace c0 := g23.keep c0
  replace c1 := g23.keep c1
  replace c2 := g23.keep c2
  replace c3 := g23.keep c3
  have G3 := Lib.hid (G2.out.then g23)
  obtain ⟨A, hA⟩ : ∃ A, A = w2.heap.size := ⟨_, rfl⟩
  rw [← hA] at k0 k1 k2 k3
  have z2 : A < w3.heap.size := cell_lt k0
  have z3 : w.heap.size + 1 < w3.heap.size := cell_lt c0
  rw [← hA]
  have HA := Lib.hid hA
  clear hA s0 s1 s2 s3 hg3 g23 GA z0 z1 G2
  have GB := Lib.hid (show Grow w3 (w3.alloc (.cells #[.int .i64 s.S, .int .i64 s.F, .int .i64 s.R, .int .i64 s.W] 51)) from (Below.refl _ _).alloc' _)
  go_wp2_with fail
  refine (cost_Total a b c d _).mono ?_
  rintro e w4 ⟨rfl, hg4⟩
  have l0 := hg4.keep (p := ⟨w3.heap.size, 0, none⟩) (v := .int .i64 s.S) (by go_simp)
  have l1 := hg4.keep (p := ⟨w3.heap.size, 1, none⟩) (v := .int .i64 s.F) (by go_simp)
  have l2 := hg4.keep (p := ⟨w3.heap.size, 2, none⟩) (v := .int .i64 s.R) (by go_simp)
  have l3 := hg4.keep (p := ⟨w3.heap.size, 3, none⟩) (v := .int .i64 s.W) (by go_simp)
  have g34 := GB.out.then hg4
  replace c0 := g34.keep c0
  replace c1 := g34.keep c1
  replace c2 := g34.keep c2
  replace c3 := g34.keep c3
  replace k0 := g34.keep k0
  replace k1 := g34.keep k1
  replace k2 := g34.keep k2
  replace k3 := g34.keep k3
  have G4 := Lib.hid (G3.out.then g34)
  obtain ⟨B, hB⟩ : ∃ B, B = w3.heap.size := ⟨_, rfl⟩
  rw [← hB] at l0 l1 l2 l3
  rw [← hB]
  clear hB hg4 g34 GB G3 z2 z3
  go_wp2_with fail
  refine (ref41_Total a b c d _).mono ?_
  rintro e w5 ⟨rfl, hg5⟩
  replace k0 := hg5.keep k0
  replace k1 := hg5.keep k1
  replace k2 := hg5.keep k2
  replace k3 := hg5.keep k3
  replace l0 := hg5.keep l0
  replace l1 := hg5.keep l1
  replace l2 := hg5.keep l2
  replace l3 := hg5.keep l3
  have G5 := Lib.hid (G4.out.then hg5)
  clear G4 hg5 c0 c1 c2 c3
  go_wp2_with fail
  refine (cost_Limit n _).mono ?_
  rintro e w6 ⟨rfl, hg6⟩
  replace k0 := hg6.keep k0
  replace k1 := hg6.keep k1
  replace k2 := hg6.keep k2
  replace k3 := hg6.keep k3
  replace l0 := hg6.keep l0
  replace l1 := hg6.keep l1
  replace l2 := hg6.keep l2
  replace l3 := hg6.keep l3
  have G6 := Lib.hid (G5.out.then hg6)
  clear G5 hg6
  go_wp2_with fail
  refine (ref41_Limit n _).mono ?_
  rintro e w7 ⟨rfl, hg7⟩
  replace k0 := hg7.keep k0
  replace k1 := hg7.keep k1
  replace k2 := hg7.keep k2
  replace k3 := hg7.keep k3
  replace l0 := hg7.keep l0
  replace l1 := hg7.keep l1
  replace l2 := hg7.keep l2
  replace l3 := hg7.keep l3
  have G7 := Lib.hid (G6.out.then hg7)
  clear G6 hg7
  go_wp2_with fail
  go_ret
  exact ⟨rfl, G7.out⟩
theorem costCounts_walk' (s : St) (a : Int × Int × Int × Int) (n : Int) (w : World) (hs : s.In w) (_ : (Lit.int .i64 n).wf = true) :
    Calls Try.prog 6 #[s.agg, .agg #[.int .i64 a.1, .int .i64 a.2.1, .int .i64 a.2.2.1, .int .i64 a.2.2.2], .int .i64 n] w fun e w' => e = .returned (.bool true) ∧ Grow w w' :=
  costCounts_walk s a.1 a.2.1 a.2.2.1 a.2.2.2 n w hs
end Go.Proofs.Ytflbiiflbehleaa
