import Derived.Test.YtflbiiflbehleaaBones51
namespace Go.Proofs.Ytflbiiflbehleaa
open Go.RowKit
/-- What holds at the head of abs.Bones's loop. -/
structure BLp (s : St) (w : World) (p : Option Addr) (c k : Nat) (ts : List Ro) (wr : World) : Prop where
  le : k ≤ s.rs.length
  g : Grow w wr
  aS : At wr w.heap.size 24 #[.int .u8 s.out, .int .i64 s.failing, .int .i64 s.steps, .slice p s.rs.length c]
  aR : At wr (w.heap.size + 1) 24 #[.int .u8 0, .int .i64 0, .int .i64 0, .slice none 0 0]
  len : ts.length = k
  row : wr.ownsRow (w.heap.size + 2) 68 5 (.slice p s.rs.length c) s.rs.length ((ts ++ s.rs.drop k).flatMap Ro.cells)
  fresh : ∀ (i : Nat) (y t : Ro), s.rs[i]? = some y → ts[i]? = some t → FreshRo (w.heap.size + 2) wr y t ∧ t.Off (Value.slice p s.rs.length c).ownBlock
theorem Ro.stores {w : World} {base g0 cap n k : Nat} {e : TypeId} {A B : List Value} {y t : Ro} (h : w.ownsRow base e 5 (.slice (some ⟨g0, 0, none⟩) n cap) n (A ++ (Ro.cells y ++ B))) (hA : A.length = k * 5) :
    ((((((w.setCell ⟨g0, k * 5, none⟩ (.int .u8 t.status)).setCell ⟨g0, k * 5 + 1, none⟩ (.int .i64 t.key)).setCell ⟨g0, k * 5 + 2, none⟩ (.slice t.fsP t.fs.length t.fsC)).setCell ⟨g0, k * 5 + 3, none⟩ (.slice t.dsP t.ds.length t.dsC)).setCell ⟨g0, k * 5 + 4, none⟩ (.slice t.psP t.ps.length t.psC))).ownsRow base e 5 (.slice (some ⟨g0, 0, none⟩) n cap) n (A ++ (Ro.cells t ++ B)) ∧ w.grownBy ((((((w.setCell ⟨g0, k * 5, none⟩ (.int .u8 t.status)).setCell ⟨g0, k * 5 + 1, none⟩ (.int .i64 t.key)).setCell ⟨g0, k * 5 + 2, none⟩ (.slice t.fsP t.fs.length t.fsC)).setCell ⟨g0, k * 5 + 3, none⟩ (.slice t.dsP t.ds.length t.dsC)).setCell ⟨g0, k * 5 + 4, none⟩ (.slice t.psP t.ps.length t.psC))) (some g0) := by
  refine ⟨?_, grown_more (grown_more (grown_more (grown_more (grown_set _ _ _ _) (grown_set _ _ _ _) (by simp)) (grown_set _ _ _ _) (by simp)) (grown_set _ _ _ _) (by simp)) (grown_set _ _ _ _) (by simp)⟩
  exact (row_set (row_set (row_set (row_set (row_set h _ 0 (.int .u8 t.status) (by rw [hA]; rfl) (by simp [Ro.cells])) _ 1 (.int .i64 t.key) (by rw [hA]) (by simp [Ro.cells])) _ 2 (.slice t.fsP t.fs.length t.fsC) (by rw [hA]) (by simp [Ro.cells])) _ 3 (.slice t.dsP t.ds.length t.dsC) (by rw [hA]) (by simp [Ro.cells])) _ 4 (.slice t.psP t.ps.length t.psC) (by rw [hA]) (by simp [Ro.cells]))
theorem BLp.start {s : St} {w w1 w2 : World} {p : Option Addr} {c : Nat} (g1 : Grow w w1) (hz : w1.heap.size = w.heap.size + 2) (aS : At w1 w.heap.size 24 #[.int .u8 s.out, .int .i64 s.failing, .int .i64 s.steps, .slice s.rsP s.rs.length s.rsC]) (aR : At w1 (w.heap.size + 1) 24 #[.int .u8 0, .int .i64 0, .int .i64 0, .slice none 0 0]) (g2 : Grow w1 w2) (r : SRow Ro.cells 68 5 w2 w1.heap.size (.slice p s.rs.length c) s.rs) :
    BLp s w p c 0 [] (w2.setCell ⟨w.heap.size, 3, none⟩ (.slice p s.rs.length c)) := by
  have hg := grown_set w2 w.heap.size 3 (.slice p s.rs.length c)
  refine ⟨Nat.zero_le _, grow_of_grown (g1.then g2) hg (Nat.le_refl _), (aS.grow g2).set 3 _, (aR.grow g2).grown hg (by simp), rfl, ?_, by simp⟩
  refine row_lower (row_grown r hg ?_) (by omega)
  intro k hk e
  have := (row_own r k e).1
  have := Option.some.inj hk
  omega
theorem BLp.cells {s : St} {w wr : World} {p : Option Addr} {c k : Nat} {ts : List Ro} {y : Ro} (h : BLp s w p c k ts wr) (hy : s.rs[k]? = some y) : wr.ownsRow (w.heap.size + 2) 68 5 (.slice p s.rs.length c) s.rs.length (ts.flatMap Ro.cells ++ (Ro.cells y ++ (s.rs.drop (k + 1)).flatMap Ro.cells)) ∧ (ts.flatMap Ro.cells).length = k * 5 := by
  obtain ⟨hn, hx⟩ := List.getElem?_eq_some_iff.1 hy
  have := h.row
  rw [List.drop_eq_getElem_cons hn, hx, List.flatMap_append, List.flatMap_cons] at this
  exact ⟨this, by rw [flat_length Ro.cells_length, h.len]⟩
theorem BLp.turn {s : St} {w wr w5 w6 wq : World} {p : Option Addr} {c k g0 : Nat} {ts : List Ro} {y t : Ro} (h : BLp s w p c k ts wr) (hy : s.rs[k]? = some y) (hp : p = some ⟨g0, 0, none⟩) (g5 : Grow wr w5) (ht : FreshRo w5.heap.size w6 y t) (g6 : Grow w5 w6)
    (hw : wq = (((((w6.setCell ⟨g0, k * 5, none⟩ (.int .u8 t.status)).setCell ⟨g0, k * 5 + 1, none⟩ (.int .i64 t.key)).setCell ⟨g0, k * 5 + 2, none⟩ (.slice t.fsP t.fs.length t.fsC)).setCell ⟨g0, k * 5 + 3, none⟩ (.slice t.dsP t.ds.length t.dsC)).setCell ⟨g0, k * 5 + 4, none⟩ (.slice t.psP t.ps.length t.psC))) : BLp s w p c (k + 1) (ts ++ [t]) wq := by
  obtain ⟨hr, hA⟩ := h.cells hy
  have gr := g5.then g6
  have hk : k < s.rs.length := (List.getElem?_eq_some_iff.1 hy).1
  have ho := row_own hr g0 (by rw [hp]; rfl)
  have hr6 := row_grown hr (grown_of_grow gr none) (by simp)
  rw [hp] at hr6
  obtain ⟨q1, q2⟩ := Ro.stores (t := t) hr6 hA
  rw [← hw] at q1 q2
  have hs5 := g5.size
  refine ⟨by omega, grow_of_grown (h.g.then gr) q2 (by omega), (h.aS.grow gr).grown q2 (by simp; omega), (h.aR.grow gr).grown q2 (by simp; omega), by rw [List.length_append, h.len]; rfl, ?_, ?_⟩
  · rw [hp, List.flatMap_append, List.flatMap_append]
    simpa [List.append_assoc] using q1
  · intro i y' t' hy' ht'
    have hoff : (Value.slice p s.rs.length c).ownBlock = some g0 := by rw [hp]; rfl
    rw [List.getElem?_append] at ht'
    split at ht'
    · obtain ⟨h1, h2⟩ := h.fresh i y' t' hy' ht'
      rw [hoff] at h2 ⊢
      exact ⟨(h1.grow gr).grown q2 h2, h2⟩
    · rename_i hi
      have : i = ts.length := by
        have := (List.getElem?_eq_some_iff.1 ht').1
        simp at this
        omega
      subst this
      rw [h.len, hy] at hy'
      cases hy'
      simp at ht'
      subst ht'
      have off : t.Off (some g0) := by
        intro a ha e
        have := (ht.place a ha).1
        have := Option.some.inj e
        omega
      rw [hoff]
      have hsz : w.heap.size + 2 ≤ wr.heap.size := by omega
      exact ⟨(ht.lower (by omega)).grown q2 off, off⟩
theorem BLp.done {s : St} {w : World} {k c : Nat} {p : Option Addr} {ts : List Ro} {wr : World} (h : BLp s w p c k ts wr) (hk : ¬ k < s.rs.length) (x0 x1 x2 x3 : Value) :
    GivesBones s w (.returned (.agg #[.int .u8 s.out, .int .i64 s.failing, .int .i64 s.steps, .slice p s.rs.length c])) ((((wr.setCell ⟨w.heap.size + 1, 0, none⟩ x0).setCell ⟨w.heap.size + 1, 1, none⟩ x1).setCell ⟨w.heap.size + 1, 2, none⟩ x2).setCell ⟨w.heap.size + 1, 3, none⟩ x3) := by
  have hg : wr.grownBy ((((wr.setCell ⟨w.heap.size + 1, 0, none⟩ x0).setCell ⟨w.heap.size + 1, 1, none⟩ x1).setCell ⟨w.heap.size + 1, 2, none⟩ x2).setCell ⟨w.heap.size + 1, 3, none⟩ x3) (some (w.heap.size + 1)) :=
    grown_more (grown_more (grown_more (grown_set _ _ _ _) (grown_set _ _ _ _) (by simp)) (grown_set _ _ _ _) (by simp)) (grown_set _ _ _ _) (by simp)
  obtain rfl : k = s.rs.length := by have := h.le; omega
  have hrow := h.row
  rw [List.drop_length, List.append_nil] at hrow
  obtain ⟨q, cap, hv, hup⟩ := row_up (lo := w.heap.size + 2) (n := s.rs.length) Ro.cells_length (l := ts) (t := 68) (by unfold SRow; rw [h.len]; exact hrow) (Nat.le_refl _) h.len
  cases hv
  have hoff : ∀ (j : Nat) (y t : Ro), s.rs[j]? = some y → ts[j]? = some t → FreshRo (w.heap.size + 2) ((((wr.setCell ⟨w.heap.size + 1, 0, none⟩ x0).setCell ⟨w.heap.size + 1, 1, none⟩ x1).setCell ⟨w.heap.size + 1, 2, none⟩ x2).setCell ⟨w.heap.size + 1, 3, none⟩ x3) y t := by
    intro j y t hy ht
    have hf := (h.fresh j y t hy ht).1
    refine hf.grown hg ?_
    intro a ha e
    have := (hf.place a ha).1
    have := Option.some.inj e
    omega
  refine ⟨⟨s.out, s.failing, s.steps, p, c, ts⟩, by simp [St.agg, h.len], ⟨⟨(hup.grown hg ?_).1, ?_⟩⟩, grow_of_grown h.g hg (by omega), rfl, rfl, rfl, h.len, ?_⟩
  · intro a ha e
    have := (hup.2 a ha).1
    have := Option.some.inj e
    omega
  · intro t ht
    obtain ⟨i, hi, hit⟩ := List.mem_iff_getElem.1 ht
    have hi' : i < s.rs.length := by rw [← h.len]; exact hi
    exact (hoff i _ t (List.getElem?_eq_getElem hi') (by rw [List.getElem?_eq_getElem hi, hit])).isIn
  · intro i y t hy ht
    exact (h.fresh i y t hy ht).1.bare
set_option maxRecDepth 100000 in
set_option maxHeartbeats 16000000 in
theorem abs_Bones (s : St) (w : World) (hs : s.In w) (hsm : SmallSt s) :
    Calls Try.prog 24 #[s.agg] w (GivesBones s w) := by
  have HS := Lib.hid hs
  have HM0 := Lib.hid hsm
  have m1 : s.rs.length ≤ 20 := hsm.1
  clear hs hsm
  go_enter Try.func24, Try.ntmps24
  go_wp2_with (go_at_call 55; refine (cloneRo s.rsP s.rsC s.rs _ (HS.out.rs.1.grow (((Below.refl _ _).alloc' _).alloc' _)) (by omega)).mono ?_; rintro e w2 ⟨v, rfl, r, g2⟩; have HR := Lib.hid r; have HG2 := Lib.hid g2; clear r g2; obtain ⟨p, c, rfl, -⟩ := HR.out.up Ro.cells_length; have q3 : w2.cell? ⟨w.heap.size, 3, none⟩ = some (.slice s.rsP s.rs.length s.rsC) := (((At.new w 24 #[.int .u8 s.out, .int .i64 s.failing, .int .i64 s.steps, .slice s.rsP s.rs.length s.rsC]).grow ((Below.refl _ _).alloc' _)).grow HG2.out).cell 3; have f3 : w2.frozen? ⟨w.heap.size, 3, none⟩ = false := (((At.new w 24 #[.int .u8 s.out, .int .i64 s.failing, .int .i64 s.steps, .slice s.rsP s.rs.length s.rsC]).grow ((Below.refl _ _).alloc' _)).grow HG2.out).free 3; have hz : w.heap.size < w2.heap.size := (((At.new w 24 #[.int .u8 s.out, .int .i64 s.failing, .int .i64 s.steps, .slice s.rsP s.rs.length s.rsC]).grow ((Below.refl _ _).alloc' _)).grow HG2.out).lt)
  have HB := Lib.hid (BLp.start (s := s) (w := w) (((Below.refl _ _).alloc' _).alloc' _) (by simp) ((At.new w 24 #[.int .u8 s.out, .int .i64 s.failing, .int .i64 s.steps, .slice s.rsP s.rs.length s.rsC]).grow ((Below.refl _ _).alloc' _)) (At.new' (by simp)) HG2.out HR.out)
  clear q3 f3 hz
  go_loopw [13] (fun i wr => ∃ (k : Nat) (ts : List Ro), i = .int .i64 k ∧ BLp s w p c k ts wr) (fun i _ => s.rs.length - (intOf i).toNat)
  case atStart => exact ⟨0, [], rfl, HB.out⟩
  case round =>
    clear HB HG2 HR
    obtain ⟨k, ts, rfl, hB⟩ := hrel
    have HB := Lib.hid hB
    have hz0 : w.heap.size + 1 < wr.heap.size := hB.aR.lt
    by_cases hlt : k < s.rs.length
    · obtain ⟨y, hy⟩ : ∃ y, s.rs[k]? = some y := ⟨_, List.getElem?_eq_getElem hlt⟩
      have HY := Lib.hid hy
      have HYI := Lib.hid ((HS.out.rs.2 y (getElem?_mem' hy)).grow hB.g)
      have hn := HM0.out.2 y (getElem?_mem' hy)
      obtain ⟨hrow, hA⟩ := hB.cells hy
      obtain ⟨g0, hp, hg0, hgz⟩ := row_place hrow (by omega)
      subst hp
      have at_ : ∀ (r : Nat) (u : Value), (Ro.cells y)[r]? = some u → wr.cell? ⟨g0, k * 5 + r, none⟩ = some u := by
        intro r u hr
        have hr5 : r < 5 := (List.getElem?_eq_some_iff.1 hr).1
        rw [hrow.cellAt _ (by omega), List.getElem?_append_right (by omega), hA, Nat.add_sub_cancel_left, List.getElem?_append_left (by simp [Ro.cells]; omega)]
        exact hr
      have a0 : wr.cell? ⟨g0, k * 5, none⟩ = some (.int .u8 y.status) := at_ 0 _ rfl
      have a1 : wr.cell? ⟨g0, k * 5 + 1, none⟩ = some (.int .i64 y.key) := at_ 1 _ rfl
      have a2 : wr.cell? ⟨g0, k * 5 + 2, none⟩ = some (.slice y.fsP y.fs.length y.fsC) := at_ 2 _ rfl
      have a3 : wr.cell? ⟨g0, k * 5 + 3, none⟩ = some (.slice y.dsP y.ds.length y.dsC) := at_ 3 _ rfl
      have a4 : wr.cell? ⟨g0, k * 5 + 4, none⟩ = some (.slice y.psP y.ps.length y.psC) := at_ 4 _ rfl
      have HROW := Lib.hid hrow
      have HAL := Lib.hid hA
      have hfr : ∀ r, wr.frozen? ⟨g0, r, none⟩ = false := fun r => hrow.frozenAt _
      have HFR := Lib.hid hfr
      have c3 : wr.cell? ⟨w.heap.size, 3, none⟩ = some (.slice (some ⟨g0, 0, none⟩) s.rs.length c) := hB.aS.cell 3
      have HC3 := Lib.hid c3
      have H0 := Lib.hid a0
      have H1 := Lib.hid a1
      have H2 := Lib.hid a2
      have H3 := Lib.hid a3
      have H4 := Lib.hid a4
      clear hy hB hrow hA at_ hfr c3
      go_wp2_with fail
      obtain ⟨w1, hw1⟩ : ∃ w1 : World, w1 = wr.alloc (.cells #[.int .u8 y.status, .int .i64 y.key, .slice y.fsP y.fs.length y.fsC, .slice y.dsP y.ds.length y.dsC, .slice y.psP y.ps.length y.psC] 68) := ⟨_, rfl⟩
      have A1 : At w1 wr.heap.size 68 #[.int .u8 y.status, .int .i64 y.key, .slice y.fsP y.fs.length y.fsC, .slice y.dsP y.ds.length y.dsC, .slice y.psP y.ps.length y.psC] := by rw [hw1]; exact At.new _ _ _
      have G1 : Grow wr w1 := by rw [hw1]; exact (Below.refl _ _).alloc' _
      rw [← hw1]
      have G1d : Grow wr w1.drew := G1.trans ⟨rfl, rfl, rfl, Nat.le_refl _, fun _ _ => rfl⟩
      have HG1 := Lib.hid G1d
      have hS0 : (fun w' => w'.cell? ⟨w.heap.size, 3, none⟩ = some (.slice (some ⟨g0, 0, none⟩) s.rs.length c) ∧ w'.cell? ⟨wr.heap.size, 0, none⟩ = some (.int .u8 y.status) ∧ w'.cell? ⟨wr.heap.size, 1, none⟩ = some (.int .i64 y.key) ∧ w'.cell? ⟨wr.heap.size, 2, none⟩ = some (.slice y.fsP y.fs.length y.fsC) ∧ w'.cell? ⟨wr.heap.size, 3, none⟩ = some (.slice y.dsP y.ds.length y.dsC) ∧ w'.cell? ⟨wr.heap.size, 4, none⟩ = some (.slice y.psP y.ps.length y.psC)) w1.drew := ⟨G1d.keep HC3.out, A1.cell 0, A1.cell 1, A1.cell 2, A1.cell 3, A1.cell 4⟩
      clear hw1 A1 G1 G1d a0 a1 a2 a3 a4
      refine wp_region_head (n := 6) (fun w' => w'.cell? ⟨w.heap.size, 3, none⟩ = some (.slice (some ⟨g0, 0, none⟩) s.rs.length c) ∧ w'.cell? ⟨wr.heap.size, 0, none⟩ = some (.int .u8 y.status) ∧ w'.cell? ⟨wr.heap.size, 1, none⟩ = some (.int .i64 y.key) ∧ w'.cell? ⟨wr.heap.size, 2, none⟩ = some (.slice y.fsP y.fs.length y.fsC) ∧ w'.cell? ⟨wr.heap.size, 3, none⟩ = some (.slice y.dsP y.ds.length y.dsC) ∧ w'.cell? ⟨wr.heap.size, 4, none⟩ = some (.slice y.psP y.ps.length y.psC)) (by kernel_rfl) (by simp) ?_
      refine HeadI.take (i := 0) (v := ?_) rfl (by kernel_rfl) (fun _ _ _ h => h) (Or.inl ⟨by rfl, ?_⟩) (by assumption) ?_
      rotate_left
      · intro w hSw
        go_split_ands
        go_simp
        try with_reducible rfl
      simp only [Act.put]
      refine HeadI.take (i := 1) (v := ?_) rfl (by kernel_rfl) (fun _ _ _ h => h) (Or.inl ⟨by rfl, ?_⟩) (by assumption) ?_
      rotate_left
      · intro w hSw
        go_split_ands
        go_simp
        try with_reducible rfl
      simp only [Act.put]
      refine HeadI.take (i := 2) (v := ?_) rfl (by kernel_rfl) (fun _ _ _ h => h) (Or.inl ⟨by rfl, ?_⟩) (by assumption) ?_
      rotate_left
      · intro w hSw
        go_split_ands
        go_simp
        try with_reducible rfl
      simp only [Act.put]
      refine HeadI.take (i := 3) (v := ?_) rfl (by kernel_rfl) (fun _ _ _ h => h) (Or.inl ⟨by rfl, ?_⟩) (by assumption) ?_
      rotate_left
      · intro w hSw
        go_split_ands
        go_simp
        try with_reducible rfl
      simp only [Act.put]
      refine HeadI.take (i := 4) (v := ?_) rfl (by kernel_rfl) (fun _ _ _ h => h) (Or.inl ⟨by rfl, ?_⟩) (by assumption) ?_
      rotate_left
      · intro w hSw
        go_split_ands
        go_simp
        try with_reducible rfl
      simp only [Act.put]
      refine HeadI.only (i := 5) rfl rfl (by kernel_rfl) (by omega) ?_
      go_simp
      refine (abs_bare y _ (HYI.out.grow HG1.out) hn.1 hn.2.1 hn.2.2).mono ?_
      rintro e w6 ⟨t, rfl, ht, g6⟩
      have HT := Lib.hid ht
      have HG6 := Lib.hid g6
      have gg := HG1.out.then g6
      refine ⟨⟨g6.keep hS0.1, g6.keep hS0.2.1, g6.keep hS0.2.2.1, g6.keep hS0.2.2.2.1, g6.keep hS0.2.2.2.2.1, g6.keep hS0.2.2.2.2.2⟩, ?_⟩
      have b0 := gg.keep H0.out
      have b1 := gg.keep H1.out
      have b2 := gg.keep H2.out
      have b3 := gg.keep H3.out
      have b4 := gg.keep H4.out
      have hgz6 : g0 < w6.heap.size := Nat.lt_of_lt_of_le hgz gg.size
      have f0 : w6.frozen? ⟨g0, k * 5, none⟩ = false := (gg.frozen (p := ⟨g0, k * 5, none⟩) hgz).trans (HFR.out _)
      have f1 : w6.frozen? ⟨g0, k * 5 + 1, none⟩ = false := (gg.frozen (p := ⟨g0, k * 5 + 1, none⟩) hgz).trans (HFR.out _)
      have f2 : w6.frozen? ⟨g0, k * 5 + 2, none⟩ = false := (gg.frozen (p := ⟨g0, k * 5 + 2, none⟩) hgz).trans (HFR.out _)
      have f3 : w6.frozen? ⟨g0, k * 5 + 3, none⟩ = false := (gg.frozen (p := ⟨g0, k * 5 + 3, none⟩) hgz).trans (HFR.out _)
      have f4 : w6.frozen? ⟨g0, k * 5 + 4, none⟩ = false := (gg.frozen (p := ⟨g0, k * 5 + 4, none⟩) hgz).trans (HFR.out _)
      clear ht g6 gg hS0
      refine HeadI.seq (by kernel_rfl) ?_
      simp only [List.drop_succ_cons, List.drop_zero]
      go_wp2_with fail
      go_roundw
      case rel => exact ⟨k + 1, ts ++ [t], by go_num, HB.out.turn HY.out rfl HG1.out HT.out HG6.out rfl⟩
      case measure => simp [intOf]; omega
    · have hR := hB.aR
      have hO := hB.aS
      have q0 : wr.cell? ⟨w.heap.size, 0, none⟩ = some (.int .u8 s.out) := hO.cell 0
      have q1 : wr.cell? ⟨w.heap.size, 1, none⟩ = some (.int .i64 s.failing) := hO.cell 1
      have q2 : wr.cell? ⟨w.heap.size, 2, none⟩ = some (.int .i64 s.steps) := hO.cell 2
      have q3 : wr.cell? ⟨w.heap.size, 3, none⟩ = some (.slice p s.rs.length c) := hO.cell 3
      have r0 : wr.cell? ⟨w.heap.size + 1, 0, none⟩ = some (.int .u8 0) := hR.cell 0
      have r1 : wr.cell? ⟨w.heap.size + 1, 1, none⟩ = some (.int .i64 0) := hR.cell 1
      have r2 : wr.cell? ⟨w.heap.size + 1, 2, none⟩ = some (.int .i64 0) := hR.cell 2
      have r3 : wr.cell? ⟨w.heap.size + 1, 3, none⟩ = some (.slice none 0 0) := hR.cell 3
      have f0 : wr.frozen? ⟨w.heap.size + 1, 0, none⟩ = false := hR.free 0
      have f1 : wr.frozen? ⟨w.heap.size + 1, 1, none⟩ = false := hR.free 1
      have f2 : wr.frozen? ⟨w.heap.size + 1, 2, none⟩ = false := hR.free 2
      have f3 : wr.frozen? ⟨w.heap.size + 1, 3, none⟩ = false := hR.free 3
      have HRR := Lib.hid hR
      clear hO hR hB
      go_wp2_with fail
      have s0 : (wr.setCell ⟨w.heap.size + 1, 0, none⟩ (.int .u8 s.out)).cell? ⟨w.heap.size + 1, 0, none⟩ = some (.int .u8 s.out) := by rw [(HRR.out.set 0 _).cell]; rfl
      have s1 : ((wr.setCell ⟨w.heap.size + 1, 0, none⟩ (.int .u8 s.out)).setCell ⟨w.heap.size + 1, 1, none⟩ (.int .i64 s.failing)).cell? ⟨w.heap.size + 1, 1, none⟩ = some (.int .i64 s.failing) := by rw [((HRR.out.set 0 _).set 1 _).cell]; rfl
      have s2 : (((wr.setCell ⟨w.heap.size + 1, 0, none⟩ (.int .u8 s.out)).setCell ⟨w.heap.size + 1, 1, none⟩ (.int .i64 s.failing)).setCell ⟨w.heap.size + 1, 2, none⟩ (.int .i64 s.steps)).cell? ⟨w.heap.size + 1, 2, none⟩ = some (.int .i64 s.steps) := by rw [(((HRR.out.set 0 _).set 1 _).set 2 _).cell]; rfl
      have s3 : ((((wr.setCell ⟨w.heap.size + 1, 0, none⟩ (.int .u8 s.out)).setCell ⟨w.heap.size + 1, 1, none⟩ (.int .i64 s.failing)).setCell ⟨w.heap.size + 1, 2, none⟩ (.int .i64 s.steps)).setCell ⟨w.heap.size + 1, 3, none⟩ (.slice p s.rs.length c)).cell? ⟨w.heap.size + 1, 3, none⟩ = some (.slice p s.rs.length c) := by rw [((((HRR.out.set 0 _).set 1 _).set 2 _).set 3 _).cell]; rfl
      exact bodyPost_ret (v := .agg #[.int .u8 s.out, .int .i64 s.failing, .int .i64 s.steps, .slice p s.rs.length c]) (by simp [results, Try.results24, go_sem, s0, s1, s2, s3]) rfl (HB.out.done hlt _ _ _ _)
end Go.Proofs.Ytflbiiflbehleaa
