import Derived.Test.YtflbiiflbehleaaBareF
namespace Go.Proofs.Ytflbiiflbehleaa
open Go.RowKit
set_option maxRecDepth 100000 in
set_option maxHeartbeats 16000000 in
theorem abs_bare (y : Ro) (w : World) (hy : y.In w) (n1 : y.fs.length ≤ 12) (n2 : y.ds.length ≤ 12) (n3 : y.ps.length ≤ 20) :
    Calls Try.prog 51 #[y.agg] w (GivesBare y w) := by
  have HY := Lib.hid hy
  clear hy
  go_enter Try.func51, Try.ntmps51
  go_wp2_with fail
  obtain ⟨w1, hw1⟩ : ∃ w1 : World, w1 = (w.alloc (.cells #[.int .u8 y.status, .int .i64 y.key, .slice y.fsP y.fs.length y.fsC, .slice y.dsP y.ds.length y.dsC, .slice y.psP y.ps.length y.psC] 68)).alloc (.cells #[.int .u8 0, .int .i64 0, .slice none 0 0, .slice none 0 0, .slice none 0 0] 68) := ⟨_, rfl⟩
  have A1 : At w1 w.heap.size 68 #[.int .u8 y.status, .int .i64 y.key, .slice y.fsP y.fs.length y.fsC, .slice y.dsP y.ds.length y.dsC, .slice y.psP y.ps.length y.psC] := by rw [hw1]; exact (At.new _ _ _).grow ((Below.refl _ _).alloc' _)
  have A2 : At w1 (w.heap.size + 1) 68 #[.int .u8 0, .int .i64 0, .slice none 0 0, .slice none 0 0, .slice none 0 0] := by rw [hw1]; exact At.new' (by simp)
  have G1 : Grow w w1 := by rw [hw1]; exact ((Below.refl _ _).alloc' _).alloc' _
  have Z1 : w1.heap.size = w.heap.size + 2 := by rw [hw1]; simp
  rw [← hw1]
  have hS0 : (fun w' => w'.cell? ⟨w.heap.size, 2, none⟩ = some (.slice y.fsP y.fs.length y.fsC) ∧ w'.cell? ⟨w.heap.size, 3, none⟩ = some (.slice y.dsP y.ds.length y.dsC) ∧ w'.cell? ⟨w.heap.size, 4, none⟩ = some (.slice y.psP y.ps.length y.psC)) w1.drew := ⟨A1.cell 2, A1.cell 3, A1.cell 4⟩
  have H1 := Lib.hid A1.drew
  have H2 := Lib.hid A2.drew
  have HG1 := Lib.hid (show Grow w w1.drew from G1.trans ⟨rfl, rfl, rfl, Nat.le_refl _, fun _ _ => rfl⟩)
  have HZ1 := Lib.hid (show w1.drew.heap.size = w.heap.size + 2 from Z1)
  clear hw1 A1 A2 G1 Z1
  refine wp_region_head (n := 10) (fun w' => w'.cell? ⟨w.heap.size, 2, none⟩ = some (.slice y.fsP y.fs.length y.fsC) ∧ w'.cell? ⟨w.heap.size, 3, none⟩ = some (.slice y.dsP y.ds.length y.dsC) ∧ w'.cell? ⟨w.heap.size, 4, none⟩ = some (.slice y.psP y.ps.length y.psC)) (by kernel_rfl) (by simp) ?_
  refine HeadI.take (i := 0) (v := ?_) rfl (by kernel_rfl) (fun _ _ _ h => h) (Or.inl ⟨by rfl, ?_⟩) (by assumption) ?_
  rotate_left
  · intro w hSw
    go_split_ands
    go_simp
    try with_reducible rfl
  simp only [Act.put]
  refine HeadI.take (i := 1) (v := ?_) rfl (by kernel_rfl) (fun _ _ _ h => h) (Or.inl ⟨by rfl, ?_⟩) (by assumption) ?_
  rotate_left
  · intro w hSw
    go_split_ands
    go_simp
    try with_reducible rfl
  simp only [Act.put]
  refine HeadI.take (i := 3) (v := ?_) rfl (by kernel_rfl) (fun _ _ _ h => h) (Or.inl ⟨by rfl, ?_⟩) (by assumption) ?_
  rotate_left
  · intro w hSw
    go_split_ands
    go_simp
    try with_reducible rfl
  simp only [Act.put]
  refine HeadI.take (i := 4) (v := ?_) rfl (by kernel_rfl) (fun _ _ _ h => h) (Or.inl ⟨by rfl, ?_⟩) (by assumption) ?_
  rotate_left
  · intro w hSw
    go_split_ands
    go_simp
    try with_reducible rfl
  simp only [Act.put]
  refine HeadI.take (i := 6) (v := ?_) rfl (by kernel_rfl) (fun _ _ _ h => h) (Or.inl ⟨by rfl, ?_⟩) (by assumption) ?_
  rotate_left
  · intro w hSw
    go_split_ands
    go_simp
    try with_reducible rfl
  simp only [Act.put]
  refine HeadI.take (i := 7) (v := ?_) rfl (by kernel_rfl) (fun _ _ _ h => h) (Or.inl ⟨by rfl, ?_⟩) (by assumption) ?_
  rotate_left
  · intro w hSw
    go_split_ands
    go_simp
    try with_reducible rfl
  simp only [Act.put]
  refine HeadI.only (i := 2) rfl rfl (by kernel_rfl) (by omega) ?_
  go_simp
  refine (cloneFr y.fsP y.fsC y.fs _ (HY.out.fs.1.grow HG1.out) (by omega)).mono ?_
  rintro e w2 ⟨v1, rfl, r1, g2⟩
  have R1 := Lib.hid r1
  have G2 := Lib.hid g2
  refine ⟨⟨g2.keep hS0.1, g2.keep hS0.2.1, g2.keep hS0.2.2⟩, ?_⟩
  have hS2 : (fun w' => w'.cell? ⟨w.heap.size, 2, none⟩ = some (.slice y.fsP y.fs.length y.fsC) ∧ w'.cell? ⟨w.heap.size, 3, none⟩ = some (.slice y.dsP y.ds.length y.dsC) ∧ w'.cell? ⟨w.heap.size, 4, none⟩ = some (.slice y.psP y.ps.length y.psC)) w2 := ⟨g2.keep hS0.1, g2.keep hS0.2.1, g2.keep hS0.2.2⟩
  clear r1 g2
  refine HeadI.take (i := 9) (v := ?_) rfl (by kernel_rfl) (fun _ _ _ h => h) (Or.inl ⟨by rfl, ?_⟩) (by assumption) ?_
  rotate_left
  · intro w hSw
    go_split_ands
    go_simp
    try with_reducible rfl
  simp only [Act.put]
  refine HeadI.only (i := 5) rfl rfl (by kernel_rfl) (by omega) ?_
  go_simp
  refine (cloneDf y.dsP y.dsC y.ds _ ((HY.out.ds.1.grow HG1.out).grow G2.out) (by omega)).mono ?_
  rintro e w3 ⟨v2, rfl, r2, g3⟩
  have R2 := Lib.hid r2
  have G3 := Lib.hid g3
  refine ⟨⟨g3.keep hS2.1, g3.keep hS2.2.1, g3.keep hS2.2.2⟩, ?_⟩
  have hS5 : (fun w' => w'.cell? ⟨w.heap.size, 2, none⟩ = some (.slice y.fsP y.fs.length y.fsC) ∧ w'.cell? ⟨w.heap.size, 3, none⟩ = some (.slice y.dsP y.ds.length y.dsC) ∧ w'.cell? ⟨w.heap.size, 4, none⟩ = some (.slice y.psP y.ps.length y.psC)) w3 := ⟨g3.keep hS2.1, g3.keep hS2.2.1, g3.keep hS2.2.2⟩
  clear r2 g3
  refine HeadI.only (i := 8) rfl rfl (by kernel_rfl) (by omega) ?_
  go_simp
  refine (clonePn y.psP y.psC y.ps _ (((HY.out.ps.1.grow HG1.out).grow G2.out).grow G3.out) (by omega)).mono ?_
  rintro e w4 ⟨v3, rfl, r3, g4⟩
  have R3 := Lib.hid r3
  have G4 := Lib.hid g4
  refine ⟨⟨g4.keep hS5.1, g4.keep hS5.2.1, g4.keep hS5.2.2⟩, ?_⟩
  clear r3 g4 hS0 hS2 hS5
  obtain ⟨p1, k1, rfl, -⟩ := R1.out.up Fr.cells_length
  obtain ⟨p2, k2, rfl, -⟩ := R2.out.up Df.cells_length
  obtain ⟨p3, k3, rfl, -⟩ := R3.out.up Pn.cells_length
  have A4 := ((H1.out.grow G2.out).grow G3.out).grow G4.out
  have c2 : w4.cell? ⟨w.heap.size, 2, none⟩ = some (.slice y.fsP y.fs.length y.fsC) := A4.cell 2
  have c3 : w4.cell? ⟨w.heap.size, 3, none⟩ = some (.slice y.dsP y.ds.length y.dsC) := A4.cell 3
  have c4 : w4.cell? ⟨w.heap.size, 4, none⟩ = some (.slice y.psP y.ps.length y.psC) := A4.cell 4
  have f2 : w4.frozen? ⟨w.heap.size, 2, none⟩ = false := A4.free 2
  have f3 : w4.frozen? ⟨w.heap.size, 3, none⟩ = false := A4.free 3
  have f4 : w4.frozen? ⟨w.heap.size, 4, none⟩ = false := A4.free 4
  have hz : w.heap.size < w4.heap.size := A4.lt
  have HB := Lib.hid (Bare3.start (y := y) HG1.out HZ1.out H1.out H2.out G2.out R1.out G3.out R2.out G4.out R3.out)
  clear A4
  refine HeadI.seq (by kernel_rfl) ?_
  simp only [List.drop_succ_cons, List.drop_zero]
  go_wp2_with fail
  clear c2 c3 c4 f2 f3 f4 hz
  go_loopw [21] (fun i wq => ∃ n : Nat, i = .int .i64 n ∧ n ≤ y.fs.length ∧ Bare3 y w p1 p2 p3 k1 k2 k3 (n) (0) (0) wq) (fun i _ => y.fs.length - (intOf i).toNat)
  case atStart => exact ⟨0, rfl, Nat.zero_le _, HB.out⟩
  case round =>
    clear HB
    obtain ⟨n, rfl, hle, hB⟩ := hrel
    have HB := Lib.hid hB
    have c1 : wr.cell? ⟨w.heap.size, 2, none⟩ = some (.slice p1 y.fs.length k1) := hB.aX.cell 2
    by_cases hln : n < y.fs.length
    · obtain ⟨x, hx⟩ : ∃ x, y.fs[n]? = some x := ⟨_, List.getElem?_eq_getElem hln⟩
      have hr := hB.r1
      obtain ⟨g0, hp, hg0, hgz⟩ := row_place hr (by omega)
      rw [hp] at c1 hr
      have q3 : wr.cell? ⟨g0, n * 4 + 3, none⟩ = some ((Fr.cells x).getD 3 undef) := mixed_cell Fr.cells_length hr hx 3 _ rfl
      simp [Fr.cells] at q3
      have f3 : wr.frozen? ⟨g0, n * 4 + 3, none⟩ = false := hr.frozenAt _
      have HX := Lib.hid hx
      have HR := Lib.hid hr
      have HP := Lib.hid hp
      clear hr hp hx hB
      go_wp2_with fail
      go_roundw
      case rel =>
        obtain ⟨h1, h2⟩ := Fr.stores HR.out HX.out
        refine ⟨n + 1, by go_num, by omega, HB.out.turn1 HP.out h2 ?_⟩
        rw [HP.out]
        exact h1
      case measure => simp [intOf]; omega
    · obtain rfl : n = y.fs.length := by omega
      clear hle hln hB
      have c3 : wr.cell? ⟨w.heap.size, 3, none⟩ = some (.slice p2 y.ds.length k2) := HB.out.aX.cell 3
      clear c1
      go_wp2_with fail
      clear c3
      go_loopw [33] (fun i wq => ∃ n : Nat, i = .int .i64 n ∧ n ≤ y.ds.length ∧ Bare3 y w p1 p2 p3 k1 k2 k3 (y.fs.length) (n) (0) wq) (fun i _ => y.ds.length - (intOf i).toNat)
      case atStart => exact ⟨0, rfl, Nat.zero_le _, HB.out⟩
      case round =>
        clear HB
        obtain ⟨n, rfl, hle, hB⟩ := hrel
        have HB := Lib.hid hB
        have c1 : wr.cell? ⟨w.heap.size, 3, none⟩ = some (.slice p2 y.ds.length k2) := hB.aX.cell 3
        by_cases hln : n < y.ds.length
        · obtain ⟨x, hx⟩ : ∃ x, y.ds[n]? = some x := ⟨_, List.getElem?_eq_getElem hln⟩
          have hr := hB.r2
          obtain ⟨g0, hp, hg0, hgz⟩ := row_place hr (by omega)
          rw [hp] at c1 hr
          have q3 : wr.cell? ⟨g0, n * 8 + 3, none⟩ = some ((Df.cells x).getD 3 undef) := mixed_cell Df.cells_length hr hx 3 _ rfl
          simp [Df.cells] at q3
          have f3 : wr.frozen? ⟨g0, n * 8 + 3, none⟩ = false := hr.frozenAt _
          have q4 : wr.cell? ⟨g0, n * 8 + 4, none⟩ = some ((Df.cells x).getD 4 undef) := mixed_cell Df.cells_length hr hx 4 _ rfl
          simp [Df.cells] at q4
          have f4 : wr.frozen? ⟨g0, n * 8 + 4, none⟩ = false := hr.frozenAt _
          have q5 : wr.cell? ⟨g0, n * 8 + 5, none⟩ = some ((Df.cells x).getD 5 undef) := mixed_cell Df.cells_length hr hx 5 _ rfl
          simp [Df.cells] at q5
          have f5 : wr.frozen? ⟨g0, n * 8 + 5, none⟩ = false := hr.frozenAt _
          have q6 : wr.cell? ⟨g0, n * 8 + 6, none⟩ = some ((Df.cells x).getD 6 undef) := mixed_cell Df.cells_length hr hx 6 _ rfl
          simp [Df.cells] at q6
          have f6 : wr.frozen? ⟨g0, n * 8 + 6, none⟩ = false := hr.frozenAt _
          have q7 : wr.cell? ⟨g0, n * 8 + 7, none⟩ = some ((Df.cells x).getD 7 undef) := mixed_cell Df.cells_length hr hx 7 _ rfl
          simp [Df.cells] at q7
          have f7 : wr.frozen? ⟨g0, n * 8 + 7, none⟩ = false := hr.frozenAt _
          have HX := Lib.hid hx
          have HR := Lib.hid hr
          have HP := Lib.hid hp
          clear hr hp hx hB
          go_wp2_with fail
          go_roundw
          case rel =>
            obtain ⟨h1, h2⟩ := Df.stores HR.out HX.out
            refine ⟨n + 1, by go_num, by omega, HB.out.turn2 HP.out h2 ?_⟩
            rw [HP.out]
            exact h1
          case measure => simp [intOf]; omega
        · obtain rfl : n = y.ds.length := by omega
          clear hle hln hB
          have c3 : wr.cell? ⟨w.heap.size, 4, none⟩ = some (.slice p3 y.ps.length k3) := HB.out.aX.cell 4
          clear c1
          go_wp2_with fail
          clear c3
          go_loopw [46] (fun i wq => ∃ n : Nat, i = .int .i64 n ∧ n ≤ y.ps.length ∧ Bare3 y w p1 p2 p3 k1 k2 k3 (y.fs.length) (y.ds.length) (n) wq) (fun i _ => y.ps.length - (intOf i).toNat)
          case atStart => exact ⟨0, rfl, Nat.zero_le _, HB.out⟩
          case round =>
            clear HB
            obtain ⟨n, rfl, hle, hB⟩ := hrel
            have HB := Lib.hid hB
            have c1 : wr.cell? ⟨w.heap.size, 4, none⟩ = some (.slice p3 y.ps.length k3) := hB.aX.cell 4
            by_cases hln : n < y.ps.length
            · obtain ⟨x, hx⟩ : ∃ x, y.ps[n]? = some x := ⟨_, List.getElem?_eq_getElem hln⟩
              have hr := hB.r3
              obtain ⟨g0, hp, hg0, hgz⟩ := row_place hr (by omega)
              rw [hp] at c1 hr
              have q1 : wr.cell? ⟨g0, n * 7 + 1, none⟩ = some ((Pn.cells x).getD 1 undef) := mixed_cell Pn.cells_length hr hx 1 _ rfl
              simp [Pn.cells] at q1
              have f1 : wr.frozen? ⟨g0, n * 7 + 1, none⟩ = false := hr.frozenAt _
              have q2 : wr.cell? ⟨g0, n * 7 + 2, none⟩ = some ((Pn.cells x).getD 2 undef) := mixed_cell Pn.cells_length hr hx 2 _ rfl
              simp [Pn.cells] at q2
              have f2 : wr.frozen? ⟨g0, n * 7 + 2, none⟩ = false := hr.frozenAt _
              have q3 : wr.cell? ⟨g0, n * 7 + 3, none⟩ = some ((Pn.cells x).getD 3 undef) := mixed_cell Pn.cells_length hr hx 3 _ rfl
              simp [Pn.cells] at q3
              have f3 : wr.frozen? ⟨g0, n * 7 + 3, none⟩ = false := hr.frozenAt _
              have q4 : wr.cell? ⟨g0, n * 7 + 4, none⟩ = some ((Pn.cells x).getD 4 undef) := mixed_cell Pn.cells_length hr hx 4 _ rfl
              simp [Pn.cells] at q4
              have f4 : wr.frozen? ⟨g0, n * 7 + 4, none⟩ = false := hr.frozenAt _
              have q5 : wr.cell? ⟨g0, n * 7 + 5, none⟩ = some ((Pn.cells x).getD 5 undef) := mixed_cell Pn.cells_length hr hx 5 _ rfl
              simp [Pn.cells] at q5
              have f5 : wr.frozen? ⟨g0, n * 7 + 5, none⟩ = false := hr.frozenAt _
              have HX := Lib.hid hx
              have HR := Lib.hid hr
              have HP := Lib.hid hp
              clear hr hp hx hB
              go_wp2_with fail
              go_roundw
              case rel =>
                obtain ⟨h1, h2⟩ := Pn.stores HR.out HX.out
                refine ⟨n + 1, by go_num, by omega, HB.out.turn3 HP.out h2 ?_⟩
                rw [HP.out]
                exact h1
              case measure => simp [intOf]; omega
            · obtain rfl : n = y.ps.length := by omega
              clear hle hln hB
              have q0 : wr.cell? ⟨w.heap.size, 0, none⟩ = some (.int .u8 y.status) := HB.out.aX.cell 0
              have q1 : wr.cell? ⟨w.heap.size, 1, none⟩ = some (.int .i64 y.key) := HB.out.aX.cell 1
              have q2 : wr.cell? ⟨w.heap.size, 2, none⟩ = some (.slice p1 y.fs.length k1) := HB.out.aX.cell 2
              have q3 : wr.cell? ⟨w.heap.size, 3, none⟩ = some (.slice p2 y.ds.length k2) := HB.out.aX.cell 3
              have q4 : wr.cell? ⟨w.heap.size, 4, none⟩ = some (.slice p3 y.ps.length k3) := HB.out.aX.cell 4
              have r0 : wr.cell? ⟨w.heap.size + 1, 0, none⟩ = some (.int .u8 0) := HB.out.aR.cell 0
              have f0 : wr.frozen? ⟨w.heap.size + 1, 0, none⟩ = false := HB.out.aR.free 0
              have r1 : wr.cell? ⟨w.heap.size + 1, 1, none⟩ = some (.int .i64 0) := HB.out.aR.cell 1
              have f1 : wr.frozen? ⟨w.heap.size + 1, 1, none⟩ = false := HB.out.aR.free 1
              have r2 : wr.cell? ⟨w.heap.size + 1, 2, none⟩ = some (.slice none 0 0) := HB.out.aR.cell 2
              have f2 : wr.frozen? ⟨w.heap.size + 1, 2, none⟩ = false := HB.out.aR.free 2
              have r3 : wr.cell? ⟨w.heap.size + 1, 3, none⟩ = some (.slice none 0 0) := HB.out.aR.cell 3
              have f3 : wr.frozen? ⟨w.heap.size + 1, 3, none⟩ = false := HB.out.aR.free 3
              have r4 : wr.cell? ⟨w.heap.size + 1, 4, none⟩ = some (.slice none 0 0) := HB.out.aR.cell 4
              have f4 : wr.frozen? ⟨w.heap.size + 1, 4, none⟩ = false := HB.out.aR.free 4
              have hz2 : w.heap.size + 1 < wr.heap.size := HB.out.aR.lt
              clear c1
              go_wp2_with fail
              have s0 : (wr.setCell ⟨w.heap.size + 1, 0, none⟩ (.int .u8 y.status)).cell? ⟨w.heap.size + 1, 0, none⟩ = some (.int .u8 y.status) := by rw [(HB.out.aR.set 0 _).cell]; rfl
              have s1 : ((wr.setCell ⟨w.heap.size + 1, 0, none⟩ (.int .u8 y.status)).setCell ⟨w.heap.size + 1, 1, none⟩ (.int .i64 y.key)).cell? ⟨w.heap.size + 1, 1, none⟩ = some (.int .i64 y.key) := by rw [((HB.out.aR.set 0 _).set 1 _).cell]; rfl
              have s2 : (((wr.setCell ⟨w.heap.size + 1, 0, none⟩ (.int .u8 y.status)).setCell ⟨w.heap.size + 1, 1, none⟩ (.int .i64 y.key)).setCell ⟨w.heap.size + 1, 2, none⟩ (.slice p1 y.fs.length k1)).cell? ⟨w.heap.size + 1, 2, none⟩ = some (.slice p1 y.fs.length k1) := by rw [(((HB.out.aR.set 0 _).set 1 _).set 2 _).cell]; rfl
              have s3 : ((((wr.setCell ⟨w.heap.size + 1, 0, none⟩ (.int .u8 y.status)).setCell ⟨w.heap.size + 1, 1, none⟩ (.int .i64 y.key)).setCell ⟨w.heap.size + 1, 2, none⟩ (.slice p1 y.fs.length k1)).setCell ⟨w.heap.size + 1, 3, none⟩ (.slice p2 y.ds.length k2)).cell? ⟨w.heap.size + 1, 3, none⟩ = some (.slice p2 y.ds.length k2) := by rw [((((HB.out.aR.set 0 _).set 1 _).set 2 _).set 3 _).cell]; rfl
              have s4 : (((((wr.setCell ⟨w.heap.size + 1, 0, none⟩ (.int .u8 y.status)).setCell ⟨w.heap.size + 1, 1, none⟩ (.int .i64 y.key)).setCell ⟨w.heap.size + 1, 2, none⟩ (.slice p1 y.fs.length k1)).setCell ⟨w.heap.size + 1, 3, none⟩ (.slice p2 y.ds.length k2)).setCell ⟨w.heap.size + 1, 4, none⟩ (.slice p3 y.ps.length k3)).cell? ⟨w.heap.size + 1, 4, none⟩ = some (.slice p3 y.ps.length k3) := by rw [(((((HB.out.aR.set 0 _).set 1 _).set 2 _).set 3 _).set 4 _).cell]; rfl
              exact bodyPost_ret (v := .agg #[.int .u8 y.status, .int .i64 y.key, .slice p1 y.fs.length k1, .slice p2 y.ds.length k2, .slice p3 y.ps.length k3]) (by simp [results, Try.results51, go_sem, s0, s1, s2, s3, s4]) rfl (HB.out.done (grown_more (grown_more (grown_more (grown_more (grown_set _ _ _ _) (grown_set _ _ _ _) (by simp)) (grown_set _ _ _ _) (by simp)) (grown_set _ _ _ _) (by simp)) (grown_set _ _ _ _) (by simp)))
end Go.Proofs.Ytflbiiflbehleaa
