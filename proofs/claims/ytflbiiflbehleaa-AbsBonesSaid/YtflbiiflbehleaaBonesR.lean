import Derived.Test.YtflbiiflbehleaaBLoop
namespace Go.Proofs.Ytflbiiflbehleaa
open Go.RowKit
/-- The headers' blocks are not o. -/
def Ro.Off (o : Option Nat) (t : Ro) : Prop := ∀ a, t.fsP = some a ∨ t.dsP = some a ∨ t.psP = some a → o ≠ some a.block
/-- What holds at the head of ref36.Bones's loop. -/
structure BOut (s : St) (w w1 : World) (k : Nat) (v : Value) (ts : List Ro) (wr : World) : Prop where
  le : k ≤ s.rs.length
  g1 : Grow w w1
  sz : w1.heap.size = w.heap.size + 3
  aS : At w1 w.heap.size 24 #[.int .u8 s.out, .int .i64 s.failing, .int .i64 s.steps, .slice s.rsP s.rs.length s.rsC]
  aR : At w1 (w.heap.size + 1) 24 #[.int .u8 0, .int .i64 0, .int .i64 0, .slice none 0 0]
  L : BLoop Ro.cells 68 5 w1 (w.heap.size + 2) 24 #[.int .u8 s.out, .int .i64 s.failing, .int .i64 s.steps, .slice none 0 0] 3 ts v wr
  len : ts.length = k
  fresh : ∀ (j : Nat) (y t : Ro), s.rs[j]? = some y → ts[j]? = some t → FreshRo (w.heap.size + 3) wr y t ∧ t.Off v.ownBlock
/-- What holds at the head of the frames' loop. -/
structure BFr (y : Ro) (wo w2 : World) (n : Nat) (v2 : Value) (wq : World) : Prop where
  le : n ≤ y.fs.length
  g2 : Grow wo w2
  sz : w2.heap.size = wo.heap.size + 2
  aX : At w2 wo.heap.size 68 #[.int .u8 y.status, .int .i64 y.key, .slice y.fsP y.fs.length y.fsC, .slice y.dsP y.ds.length y.dsC, .slice y.psP y.ps.length y.psC]
  L : BLoop Fr.cells 74 4 w2 (wo.heap.size + 1) 68 #[.int .u8 y.status, .int .i64 y.key, .slice none 0 0, .slice none 0 0, .slice none 0 0] 2 ((y.fs.take n).map Fr.bare) v2 wq
/-- Behind the frames' loop. -/
structure BDs (y : Ro) (wo : World) (v2 : Value) (wq : World) : Prop where
  g : Grow wo wq
  aX : At wq wo.heap.size 68 #[.int .u8 y.status, .int .i64 y.key, .slice y.fsP y.fs.length y.fsC, .slice y.dsP y.ds.length y.dsC, .slice y.psP y.ps.length y.psC]
  aY : At wq (wo.heap.size + 1) 68 #[.int .u8 y.status, .int .i64 y.key, v2, .slice none 0 0, .slice none 0 0]
  fs : (∃ p c, v2 = .slice p y.fs.length c ∧ LiesUp (wo.heap.size + 2) wq p c 4 Fr.cells (y.fs.map Fr.bare))
structure BPs (y : Ro) (wo : World) (v2 v3 : Value) (wq : World) : Prop where
  g : Grow wo wq
  aX : At wq wo.heap.size 68 #[.int .u8 y.status, .int .i64 y.key, .slice y.fsP y.fs.length y.fsC, .slice y.dsP y.ds.length y.dsC, .slice y.psP y.ps.length y.psC]
  aY : At wq (wo.heap.size + 1) 68 #[.int .u8 y.status, .int .i64 y.key, v2, v3, .slice none 0 0]
  fs : (∃ p c, v2 = .slice p y.fs.length c ∧ LiesUp (wo.heap.size + 2) wq p c 4 Fr.cells (y.fs.map Fr.bare))
  ds : (∃ p c, v3 = .slice p y.ds.length c ∧ LiesUp (wo.heap.size + 2) wq p c 8 Df.cells (y.ds.map Df.bare))
structure BAll (y : Ro) (wo : World) (v2 v3 v4 : Value) (wq : World) : Prop where
  g : Grow wo wq
  aX : At wq wo.heap.size 68 #[.int .u8 y.status, .int .i64 y.key, .slice y.fsP y.fs.length y.fsC, .slice y.dsP y.ds.length y.dsC, .slice y.psP y.ps.length y.psC]
  aY : At wq (wo.heap.size + 1) 68 #[.int .u8 y.status, .int .i64 y.key, v2, v3, v4]
  fs : (∃ p c, v2 = .slice p y.fs.length c ∧ LiesUp (wo.heap.size + 2) wq p c 4 Fr.cells (y.fs.map Fr.bare))
  ds : (∃ p c, v3 = .slice p y.ds.length c ∧ LiesUp (wo.heap.size + 2) wq p c 8 Df.cells (y.ds.map Df.bare))
  ps : (∃ p c, v4 = .slice p y.ps.length c ∧ LiesUp (wo.heap.size + 2) wq p c 7 Pn.cells (y.ps.map Pn.bare))
theorem lies_on {α : Type} {cells : α → List Value} {size o n : Nat} {v : Value} {w w' : World} {l : List α} (h : ∃ p c, v = .slice p n c ∧ LiesUp (o + 2) w p c size cells l) (g : w.grownBy w' (some (o + 1))) : ∃ p c, v = .slice p n c ∧ LiesUp (o + 2) w' p c size cells l := by
  obtain ⟨p, c, hv, hl⟩ := h
  refine ⟨p, c, hv, hl.grown g ?_⟩
  intro a ha e
  have := (hl.2 a ha).1
  have := Option.some.inj e
  omega
theorem row_up {α : Type} {cells : α → List Value} {t : TypeId} {size lo base n : Nat} {v : Value} {w : World} {l : List α} (hc : ∀ x, (cells x).length = size) (h : SRow cells t size w base v l) (hb : lo ≤ base) (hn : l.length = n) : ∃ p c, v = .slice p n c ∧ LiesUp lo w p c size cells l := by
  obtain ⟨p, c, hv, hl⟩ := h.up hc
  exact ⟨p, c, by rw [hv, hn], hl.lower hb⟩
theorem BFr.done {y : Ro} {wo w2 : World} {n : Nat} {v2 : Value} {wq : World} (h : BFr y wo w2 n v2 wq) (hn : ¬ n < y.fs.length) : BDs y wo v2 wq := by
  obtain rfl : n = y.fs.length := by have := h.le; omega
  have hr := h.L.row
  rw [List.take_length] at hr
  exact ⟨grow_of_grown h.g2 h.L.g (by omega), h.L.old h.aX (by omega), h.L.at', row_up Fr.cells_length hr (by rw [h.sz]; omega) (by simp)⟩
theorem BDs.done {y : Ro} {wo w3 : World} {n : Nat} {v2 v3 : Value} {wq : World} (h : BDs y wo v2 w3) (hle : n ≤ y.ds.length) (L : BLoop Df.cells 81 8 w3 (wo.heap.size + 1) 68 #[.int .u8 y.status, .int .i64 y.key, v2, .slice none 0 0, .slice none 0 0] 3 ((y.ds.take n).map Df.bare) v3 wq) (hn : ¬ n < y.ds.length) : BPs y wo v2 v3 wq := by
  obtain rfl : n = y.ds.length := by omega
  have hr := L.row
  rw [List.take_length] at hr
  exact ⟨grow_of_grown h.g L.g (by omega), L.old h.aX (by omega), L.at', lies_on h.fs L.g, row_up Df.cells_length hr (by have := L.lt; omega) (by simp)⟩
theorem BPs.done {y : Ro} {wo w3 : World} {n : Nat} {v2 v3 v4 : Value} {wq : World} (h : BPs y wo v2 v3 w3) (hle : n ≤ y.ps.length) (L : BLoop Pn.cells 85 7 w3 (wo.heap.size + 1) 68 #[.int .u8 y.status, .int .i64 y.key, v2, v3, .slice none 0 0] 4 ((y.ps.take n).map Pn.bare) v4 wq) (hn : ¬ n < y.ps.length) : BAll y wo v2 v3 v4 wq := by
  obtain rfl : n = y.ps.length := by omega
  have hr := L.row
  rw [List.take_length] at hr
  exact ⟨grow_of_grown h.g L.g (by omega), L.old h.aX (by omega), L.at', lies_on h.fs L.g, lies_on h.ds L.g, row_up Pn.cells_length hr (by have := L.lt; omega) (by simp)⟩
/-- The routine that has been made. -/
theorem BAll.made {y : Ro} {wo : World} {v2 v3 v4 : Value} {wq : World} (h : BAll y wo v2 v3 v4 wq) : ∃ t : Ro, FreshRo (wo.heap.size + 2) wq y t ∧ At wq (wo.heap.size + 1) 68 #[.int .u8 t.status, .int .i64 t.key, .slice t.fsP t.fs.length t.fsC, .slice t.dsP t.ds.length t.dsC, .slice t.psP t.ps.length t.psC] := by
  obtain ⟨p2, c2, rfl, h2⟩ := h.fs
  obtain ⟨p3, c3, rfl, h3⟩ := h.ds
  obtain ⟨p4, c4, rfl, h4⟩ := h.ps
  refine ⟨⟨y.status, y.key, p2, c2, y.fs.map Fr.bare, p3, c3, y.ds.map Df.bare, p4, c4, y.ps.map Pn.bare⟩, ⟨⟨rfl, rfl, rfl, rfl, rfl⟩, h2, h3, h4⟩, ?_⟩
  have := h.aY
  simp only [List.length_map]
  exact this
theorem FreshRo.grown {lo : Nat} {w w' : World} {y t : Ro} {r : Option Nat} (h : FreshRo lo w y t) (g : w.grownBy w' r) (hr : t.Off r) : FreshRo lo w' y t :=
  ⟨h.bare, h.fs.grown g fun a ha e => hr a (.inl ha) e.symm, h.ds.grown g fun a ha e => hr a (.inr (.inl ha)) e.symm, h.ps.grown g fun a ha e => hr a (.inr (.inr ha)) e.symm⟩
theorem FreshRo.place {lo : Nat} {w : World} {y t : Ro} (h : FreshRo lo w y t) (a : Addr) (ha : t.fsP = some a ∨ t.dsP = some a ∨ t.psP = some a) : lo ≤ a.block ∧ a.block < w.heap.size := by
  rcases ha with ha | ha | ha
  · exact h.fs.2 a ha
  · exact h.ds.2 a ha
  · exact h.ps.2 a ha
theorem fresh_step {lo : Nat} {wz w4 : World} {y t : Ro} {v : Value} {ob : Obj} {o j g : Nat} {u : Value} (h : FreshRo lo wz y t) (ho : t.Off v.ownBlock) (hg : (wz.alloc ob).grownBy w4 v.ownBlock) (hgo : v.ownBlock = some g ∨ g = (wz.alloc ob).heap.size) (hlo : o < lo) : FreshRo lo (w4.setCell ⟨o, j, none⟩ u) y t ∧ t.Off (some g) := by
  have h1 : FreshRo lo (wz.alloc ob) y t := h.grow ((Below.refl _ _).alloc' _)
  refine ⟨(h1.grown hg ho).grown (grown_set _ _ _ _) ?_, ?_⟩
  · intro a ha e
    have := (h.place a ha).1
    have := Option.some.inj e
    omega
  · intro a ha e
    rcases hgo with h2 | h2
    · exact ho a ha (h2.trans e)
    · have := (h1.place a ha).2
      have := Option.some.inj e
      omega
theorem BOut.freshStep {s : St} {w w1 : World} {k : Nat} {v : Value} {ts : List Ro} {wo wz w4 : World} {y t : Ro} {ob : Obj} {j g : Nat} {u : Value} (h : BOut s w w1 k v ts wo) (hy : s.rs[k]? = some y) (gz : Grow wo wz) (ht : FreshRo (wo.heap.size + 2) wz y t) (hg : (wz.alloc ob).grownBy w4 v.ownBlock) (hgo : v.ownBlock = some g ∨ g = (wz.alloc ob).heap.size) :
    ∀ (i : Nat) (y' t' : Ro), s.rs[i]? = some y' → (ts ++ [t])[i]? = some t' → FreshRo (w.heap.size + 3) (w4.setCell ⟨w.heap.size + 2, j, none⟩ u) y' t' ∧ t'.Off (some g) := by
  intro i y' t' hy' ht'
  rw [List.getElem?_append] at ht'
  split at ht'
  · obtain ⟨h1, h2⟩ := h.fresh i y' t' hy' ht'
    exact fresh_step (h1.grow gz) h2 hg hgo (by omega)
  · rename_i hi
    have : i = ts.length := by
      have := (List.getElem?_eq_some_iff.1 ht').1
      simp at this
      omega
    subst this
    rw [h.len] at hy'
    rw [hy] at hy'
    cases hy'
    simp at ht'
    subst ht'
    have hsz := h.L.g.size
    rw [h.sz] at hsz
    refine fresh_step (ht.lower (by omega)) ?_ hg hgo (by omega)
    intro a ha e
    have := (h.L.row.own _ e).2
    have := (ht.place a ha).1
    omega
theorem BOut.done {s : St} {w w1 : World} {k c : Nat} {p : Option Addr} {ts : List Ro} {wr : World} (h : BOut s w w1 k (.slice p ts.length c) ts wr) (hk : ¬ k < s.rs.length) (x0 x1 x2 x3 : Value) :
    GivesBones s w (.returned (.agg #[.int .u8 s.out, .int .i64 s.failing, .int .i64 s.steps, .slice p ts.length c])) ((((wr.setCell ⟨w.heap.size + 1, 0, none⟩ x0).setCell ⟨w.heap.size + 1, 1, none⟩ x1).setCell ⟨w.heap.size + 1, 2, none⟩ x2).setCell ⟨w.heap.size + 1, 3, none⟩ x3) := by
  have hg : wr.grownBy ((((wr.setCell ⟨w.heap.size + 1, 0, none⟩ x0).setCell ⟨w.heap.size + 1, 1, none⟩ x1).setCell ⟨w.heap.size + 1, 2, none⟩ x2).setCell ⟨w.heap.size + 1, 3, none⟩ x3) (some (w.heap.size + 1)) :=
    grown_more (grown_more (grown_more (grown_set _ _ _ _) (grown_set _ _ _ _) (by simp)) (grown_set _ _ _ _) (by simp)) (grown_set _ _ _ _) (by simp)
  obtain rfl : k = s.rs.length := by have := h.le; omega
  have hsz := h.sz
  obtain ⟨q, cap, hv, hup⟩ := h.L.row.up Ro.cells_length
  cases hv
  have hoff : ∀ (j : Nat) (y t : Ro), s.rs[j]? = some y → ts[j]? = some t → FreshRo (w.heap.size + 3) ((((wr.setCell ⟨w.heap.size + 1, 0, none⟩ x0).setCell ⟨w.heap.size + 1, 1, none⟩ x1).setCell ⟨w.heap.size + 1, 2, none⟩ x2).setCell ⟨w.heap.size + 1, 3, none⟩ x3) y t := by
    intro j y t hy ht
    have hf := (h.fresh j y t hy ht).1
    refine hf.grown hg ?_
    intro a ha e
    have := (hf.place a ha).1
    have := Option.some.inj e
    omega
  refine ⟨⟨s.out, s.failing, s.steps, p, c, ts⟩, rfl, ⟨⟨(hup.grown hg ?_).1, ?_⟩⟩, grow_of_grown (grow_of_grown h.g1 h.L.g (by omega)) hg (by omega), rfl, rfl, rfl, h.len, ?_⟩
  · intro a ha e
    have := (hup.2 a ha).1
    have := Option.some.inj e
    omega
  · intro t ht
    obtain ⟨i, hi, hit⟩ := List.mem_iff_getElem.1 ht
    have hi' : i < s.rs.length := by rw [← h.len]; exact hi
    exact (hoff i _ t (List.getElem?_eq_getElem hi') (by rw [List.getElem?_eq_getElem hi, hit])).isIn
  · intro i y t hy ht
    exact (h.fresh i y t hy ht).1.bare
set_option maxRecDepth 100000 in
set_option maxHeartbeats 16000000 in
theorem ref36_Bones (s : St) (w : World) (hs : s.In w) (hsm : SmallSt s) :
    Calls Try.prog 25 #[s.agg] w (GivesBones s w) := by
  have HS := Lib.hid hs
  have HM0 := Lib.hid hsm
  have m1 : s.rs.length ≤ 20 := hsm.1
  clear hs hsm
  go_enter Try.func25, Try.ntmps25
  go_wp2_with fail
  go_loopw [4] (fun i wr => ∃ (w1 : World) (k : Nat) (v : Value) (ts : List Ro), i = .int .i64 k ∧ BOut s w w1 k v ts wr) (fun i _ => s.rs.length - (intOf i).toNat)
  case atStart =>
    refine ⟨_, 0, .slice none 0 0, [], rfl, ⟨Nat.zero_le _, (((Below.refl _ _).alloc' _).alloc' _).alloc' _, by simp, ?_, ?_, BLoop.start (At.new' (by simp)) rfl, rfl, by simp⟩⟩
    · exact ((At.new _ _ _).grow ((Below.refl _ _).alloc' _)).grow ((Below.refl _ _).alloc' _)
    · exact (At.new' (by simp)).grow ((Below.refl _ _).alloc' _)
  case round =>
    obtain ⟨w1, k, v, ts, rfl, hB⟩ := hrel
    have HB := Lib.hid hB
    have c3 : wr.cell? ⟨w.heap.size, 3, none⟩ = some (.slice s.rsP s.rs.length s.rsC) := (hB.L.old hB.aS (by omega)).cell 3
    have hz0 : w.heap.size + 2 < wr.heap.size := hB.L.at'.lt
    have hz1 : w.heap.size < wr.heap.size := by omega
    by_cases hlt : k < s.rs.length
    · obtain ⟨y, hy⟩ : ∃ y, s.rs[k]? = some y := ⟨_, List.getElem?_eq_getElem hlt⟩
      have HY := Lib.hid hy
      have HYI := Lib.hid (HS.out.rs.2 y (getElem?_mem' hy))
      obtain ⟨hn1, hn2, hn3⟩ := HM0.out.2 y (getElem?_mem' hy)
      obtain ⟨b, o, hp, hb, he⟩ := HS.out.rs.1.elem hy
      have HG := Lib.hid (grow_of_grown hB.g1 hB.L.g (by omega))
      obtain ⟨a0, a1, a2, a3, a4⟩ := (he.grow HG.out).ro
      have hbz : b < wr.heap.size := cell_lt a0
      rw [hp] at c3
      clear he hy hp hB
      go_wp2_with fail
      clear a0 a1 a2 a3 a4 c3 hz0 hz1 hbz
      obtain ⟨wo, rfl⟩ : ∃ wo : World, wo = wr := ⟨_, rfl⟩
      go_loopw [7] (fun i wq => ∃ (w2 : World) (n : Nat) (v2 : Value), i = .int .i64 n ∧ BFr y wo w2 n v2 wq) (fun i _ => y.fs.length - (intOf i).toNat)
      case atStart =>
        refine ⟨_, 0, .slice none 0 0, rfl, ⟨Nat.zero_le _, ((Below.refl _ _).alloc' _).alloc' _, by simp, ?_, BLoop.start (At.new' (by simp)) rfl⟩⟩
        exact (At.new _ _ _).grow ((Below.refl _ _).alloc' _)
      case round =>
        obtain ⟨w2, n, v2, rfl, hF⟩ := hrel
        have HF := Lib.hid hF
        have c1 : wr.cell? ⟨wo.heap.size, 2, none⟩ = some (.slice y.fsP y.fs.length y.fsC) := (hF.L.old hF.aX (by omega)).cell 2
        have c2 : wr.cell? ⟨wo.heap.size + 1, 2, none⟩ = some v2 := hF.L.cell
        have HG2 := Lib.hid (grow_of_grown hF.g2 hF.L.g (by omega))
        by_cases hln : n < y.fs.length
        · obtain ⟨x, hx⟩ : ∃ x, y.fs[n]? = some x := ⟨_, List.getElem?_eq_getElem hln⟩
          obtain ⟨b1, o1, hp1, hb1, he1⟩ := HYI.out.fs.1.elem hx
          obtain ⟨p0, p1, p2, p3⟩ := ((he1.grow HG.out).grow HG2.out).fr
          rw [hp1] at c1
          have HX := Lib.hid hx
          clear hx he1 hp1 hF p3
          have hS0 : (fun w' => w'.cell? ⟨wo.heap.size, 2, none⟩ = some (.slice (some ⟨b1, o1, none⟩) y.fs.length y.fsC) ∧ w'.cell? ⟨wo.heap.size + 1, 2, none⟩ = some v2 ∧ w'.cell? ⟨b1, o1 + n * 4, none⟩ = some (.int .i64 x.fn) ∧ w'.cell? ⟨b1, o1 + n * 4 + 1, none⟩ = some (.int .i64 x.ip) ∧ w'.cell? ⟨b1, o1 + n * 4 + 2, none⟩ = some (.int .u64 x.mode)) wr.drew := ⟨c1, c2, p0, p1, p2⟩
          go_wp2_with fail
          refine wp_region_head (n := 22) (fun w' => w'.cell? ⟨wo.heap.size, 2, none⟩ = some (.slice (some ⟨b1, o1, none⟩) y.fs.length y.fsC) ∧ w'.cell? ⟨wo.heap.size + 1, 2, none⟩ = some v2 ∧ w'.cell? ⟨b1, o1 + n * 4, none⟩ = some (.int .i64 x.fn) ∧ w'.cell? ⟨b1, o1 + n * 4 + 1, none⟩ = some (.int .i64 x.ip) ∧ w'.cell? ⟨b1, o1 + n * 4 + 2, none⟩ = some (.int .u64 x.mode)) (by kernel_rfl) (by simp) ?_
          refine HeadI.take (i := 0) (v := ?_) rfl (by kernel_rfl) (fun _ _ _ h => h) (Or.inl ⟨by rfl, ?_⟩) (by assumption) ?_
          rotate_left
          · intro w hSw
            go_split_ands
            go_simp
            try with_reducible rfl
          simp only [Act.put]
          refine HeadI.take (i := 1) (v := ?_) rfl (by kernel_rfl) (fun _ _ _ h => h) (Or.inl ⟨by rfl, ?_⟩) (by assumption) ?_
          rotate_left
          · intro w hSw
            go_split_ands
            go_simp
            try with_reducible rfl
          simp only [Act.put]
          refine HeadI.take (i := 2) (v := ?_) rfl (by kernel_rfl) (fun _ _ _ h => h) (Or.inl ⟨by rfl, ?_⟩) (by assumption) ?_
          rotate_left
          · intro w hSw
            go_split_ands
            go_simp
            try with_reducible rfl
          simp only [Act.put]
          refine HeadI.take (i := 3) (v := ?_) rfl (by kernel_rfl) (fun _ _ _ h => h) (Or.inl ⟨by rfl, ?_⟩) (by assumption) ?_
          rotate_left
          · intro w hSw
            go_split_ands
            go_simp
            try with_reducible rfl
          simp only [Act.put]
          refine HeadI.take (i := 4) (v := ?_) rfl (by kernel_rfl) (fun _ _ _ h => h) (Or.inl ⟨by rfl, ?_⟩) (by assumption) ?_
          rotate_left
          · intro w hSw
            go_split_ands
            go_simp
            try with_reducible rfl
          simp only [Act.put]
          refine HeadI.take (i := 5) (v := ?_) rfl (by kernel_rfl) (fun _ _ _ h => h) (Or.inl ⟨by rfl, ?_⟩) (by assumption) ?_
          rotate_left
          · intro w hSw
            go_split_ands
            go_simp
            try with_reducible rfl
          simp only [Act.put]
          refine HeadI.take (i := 6) (v := ?_) rfl (by kernel_rfl) (fun _ _ _ h => h) (Or.inl ⟨by rfl, ?_⟩) (by assumption) ?_
          rotate_left
          · intro w hSw
            go_split_ands
            go_simp
            try with_reducible rfl
          simp only [Act.put]
          refine HeadI.take (i := 7) (v := ?_) rfl (by kernel_rfl) (fun _ _ _ h => h) (Or.inl ⟨by rfl, ?_⟩) (by assumption) ?_
          rotate_left
          · intro w hSw
            go_split_ands
            go_simp
            try with_reducible rfl
          simp only [Act.put]
          refine HeadI.take (i := 8) (v := ?_) rfl (by kernel_rfl) (fun _ _ _ h => h) (Or.inl ⟨by rfl, ?_⟩) (by assumption) ?_
          rotate_left
          · intro w hSw
            go_split_ands
            go_simp
            try with_reducible rfl
          simp only [Act.put]
          refine HeadI.take (i := 9) (v := ?_) rfl (by kernel_rfl) (fun _ _ _ h => h) (Or.inl ⟨by rfl, ?_⟩) (by assumption) ?_
          rotate_left
          · intro w hSw
            go_split_ands
            go_simp
            try with_reducible rfl
          simp only [Act.put]
          refine HeadI.take (i := 10) (v := ?_) rfl (by kernel_rfl) (fun _ _ _ h => h) (Or.inl ⟨by rfl, ?_⟩) (by assumption) ?_
          rotate_left
          · intro w hSw
            go_split_ands
            go_simp
            try with_reducible rfl
          simp only [Act.put]
          refine HeadI.take (i := 11) (v := ?_) rfl (by kernel_rfl) (fun _ _ _ h => h) (Or.inl ⟨by rfl, ?_⟩) (by assumption) ?_
          rotate_left
          · intro w hSw
            go_split_ands
            go_simp
            try with_reducible rfl
          simp only [Act.put]
          refine HeadI.take (i := 12) (v := ?_) rfl (by kernel_rfl) (fun _ _ _ h => h) (Or.inl ⟨by rfl, ?_⟩) (by assumption) ?_
          rotate_left
          · intro w hSw
            go_split_ands
            go_simp
            try with_reducible rfl
          simp only [Act.put]
          refine HeadI.take (i := 13) (v := ?_) rfl (by kernel_rfl) (fun _ _ _ h => h) (Or.inl ⟨by rfl, ?_⟩) (by assumption) ?_
          rotate_left
          · intro w hSw
            go_split_ands
            go_simp
            try with_reducible rfl
          simp only [Act.put]
          refine HeadI.take (i := 14) (v := ?_) rfl (by kernel_rfl) (fun _ _ _ h => h) (Or.inl ⟨by rfl, ?_⟩) (by assumption) ?_
          rotate_left
          · intro w hSw
            go_split_ands
            go_simp
            try with_reducible rfl
          simp only [Act.put]
          refine HeadI.take (i := 15) (v := ?_) rfl (by kernel_rfl) (fun _ _ _ h => h) (Or.inl ⟨by rfl, ?_⟩) (by assumption) ?_
          rotate_left
          · intro w hSw
            go_split_ands
            go_simp
            try with_reducible rfl
          simp only [Act.put]
          refine HeadI.take (i := 16) (v := ?_) rfl (by kernel_rfl) (fun _ _ _ h => h) (Or.inl ⟨by rfl, ?_⟩) (by assumption) ?_
          rotate_left
          · intro w hSw
            go_split_ands
            go_simp
            try with_reducible rfl
          simp only [Act.put]
          refine HeadI.take (i := 17) (v := ?_) rfl (by kernel_rfl) (fun _ _ _ h => h) (Or.inl ⟨by rfl, ?_⟩) (by assumption) ?_
          rotate_left
          · intro w hSw
            go_split_ands
            go_simp
            try with_reducible rfl
          simp only [Act.put]
          refine HeadI.take (i := 18) (v := ?_) rfl (by kernel_rfl) (fun _ _ _ h => h) (Or.inl ⟨by rfl, ?_⟩) (by assumption) ?_
          rotate_left
          · intro w hSw
            go_split_ands
            go_simp
            try with_reducible rfl
          simp only [Act.put]
          refine HeadI.take (i := 19) (v := ?_) rfl (by kernel_rfl) (fun _ _ _ h => h) (Or.inl ⟨by rfl, ?_⟩) (by assumption) ?_
          rotate_left
          · intro w hSw
            go_split_ands
            go_simp
            try with_reducible rfl
          simp only [Act.put]
          refine HeadI.take (i := 20) (v := ?_) rfl (by kernel_rfl) (fun _ _ _ h => h) (Or.inl ⟨by rfl, ?_⟩) (by assumption) ?_
          rotate_left
          · intro w hSw
            go_split_ands
            go_simp
            try with_reducible rfl
          simp only [Act.put]
          refine HeadI.only (i := 21) rfl rfl (by kernel_rfl) (by omega) ?_
          go_simp
          refine ⟨?hs, ?_⟩
          case hs =>
            have G := (Below.refl wr.heap.size wr).alloc' (.cells #[.int .i64 x.fn, .int .i64 x.ip, .int .u64 x.mode, .slice none 0 0] 74)
            exact ⟨G.keep c1, G.keep c2, G.keep p0, G.keep p1, G.keep p2⟩
          refine HeadI.seq (by kernel_rfl) ?_
          simp only [List.drop_succ_cons, List.drop_zero]
          refine append_one Try.uFr Try.iFr Fr.cells_length (by decide) Fr.flat_one _ rfl _ _ rfl w2.heap.size _ ((y.fs.take n).map Fr.bare) rfl wr.heap.size 1 x.bare rfl ?row 74 #[.int .i64 x.fn, .int .i64 x.ip, .int .u64 x.mode, .slice none 0 0] rfl ?att ?len ?base ?_
          case row => exact World.ownsRow.alloc (HF.out.L.row.grown (grown_drew _ none) (by simp)) _
          case att => exact At.new _ _ _
          case len => simp; omega
          case base => exact Nat.le_trans HF.out.L.g.size (by simp)
          intro g2 q2 k2 w4 hr hg ho
          have HM := Lib.hid (HF.out.L.mid hg)
          have m1 : w4.cell? ⟨wo.heap.size + 1, 2, none⟩ = some v2 := by rw [HM.out.cell]; rfl
          have m2 : w4.frozen? ⟨wo.heap.size + 1, 2, none⟩ = false := HM.out.free 2
          have m3 : wo.heap.size + 1 < w4.heap.size := HM.out.lt
          have HR := Lib.hid (HF.out.L.step hg hr)
          clear hr hg ho
          go_wp2_with fail
          go_roundw
          case rel =>
            refine ⟨w2, n + 1, .slice (some ⟨g2, 0, none⟩) q2 k2, by go_num, ⟨by omega, HF.out.g2, HF.out.sz, HF.out.aX, ?_⟩⟩
            have e : (y.fs.take (n + 1)).map Fr.bare = (y.fs.take n).map Fr.bare ++ [x.bare] := by rw [List.take_add_one, HX.out]; simp
            rw [e]
            exact HR.out
          case measure => simp [intOf]; omega
        · have HD := Lib.hid (hF.done hln)
          clear hF HF HG2
          go_wp2_with fail
          clear c1 c2
          obtain ⟨w3, rfl⟩ : ∃ w3 : World, w3 = wr := ⟨_, rfl⟩
          go_loopw [8] (fun i wq => ∃ (n : Nat) (v2' : Value), i = .int .i64 n ∧ n ≤ y.ds.length ∧ BLoop Df.cells 81 8 w3 (wo.heap.size + 1) 68 #[.int .u8 y.status, .int .i64 y.key, v2, .slice none 0 0, .slice none 0 0] 3 ((y.ds.take n).map Df.bare) v2' wq) (fun i _ => y.ds.length - (intOf i).toNat)
          case atStart => exact ⟨0, .slice none 0 0, rfl, Nat.zero_le _, BLoop.start HD.out.aY rfl⟩
          case round =>
            obtain ⟨n, v3, rfl, hle, hL⟩ := hrel
            have HF := Lib.hid hL
            have c1 : wr.cell? ⟨wo.heap.size, 3, none⟩ = some (.slice y.dsP y.ds.length y.dsC) := (hL.old HD.out.aX (by omega)).cell 3
            have c2 : wr.cell? ⟨wo.heap.size + 1, 3, none⟩ = some v3 := hL.cell
            have HG2 := Lib.hid (grow_of_grown HD.out.g hL.g (by omega))
            by_cases hln : n < y.ds.length
            · obtain ⟨x, hx⟩ : ∃ x, y.ds[n]? = some x := ⟨_, List.getElem?_eq_getElem hln⟩
              obtain ⟨b1, o1, hp1, hb1, he1⟩ := HYI.out.ds.1.elem hx
              obtain ⟨p0, p1, p2, p3, p4, p5, p6, p7⟩ := ((he1.grow HG.out).grow HG2.out).df
              rw [hp1] at c1
              have HX := Lib.hid hx
              clear hx he1 hp1 hL p3 p4 p5 p6 p7
              have hS0 : (fun w' => w'.cell? ⟨wo.heap.size, 3, none⟩ = some (.slice (some ⟨b1, o1, none⟩) y.ds.length y.dsC) ∧ w'.cell? ⟨wo.heap.size + 1, 3, none⟩ = some v3 ∧ w'.cell? ⟨b1, o1 + n * 8, none⟩ = some (.int .i64 x.frame) ∧ w'.cell? ⟨b1, o1 + n * 8 + 1, none⟩ = some (.int .i64 x.fn) ∧ w'.cell? ⟨b1, o1 + n * 8 + 2, none⟩ = some (.bool x.has)) wr.drew := ⟨c1, c2, p0, p1, p2⟩
              go_wp2_with fail
              refine wp_region_head (n := 22) (fun w' => w'.cell? ⟨wo.heap.size, 3, none⟩ = some (.slice (some ⟨b1, o1, none⟩) y.ds.length y.dsC) ∧ w'.cell? ⟨wo.heap.size + 1, 3, none⟩ = some v3 ∧ w'.cell? ⟨b1, o1 + n * 8, none⟩ = some (.int .i64 x.frame) ∧ w'.cell? ⟨b1, o1 + n * 8 + 1, none⟩ = some (.int .i64 x.fn) ∧ w'.cell? ⟨b1, o1 + n * 8 + 2, none⟩ = some (.bool x.has)) (by kernel_rfl) (by simp) ?_
              refine HeadI.take (i := 0) (v := ?_) rfl (by kernel_rfl) (fun _ _ _ h => h) (Or.inl ⟨by rfl, ?_⟩) (by assumption) ?_
              rotate_left
              · intro w hSw
                go_split_ands
                go_simp
                try with_reducible rfl
              simp only [Act.put]
              refine HeadI.take (i := 1) (v := ?_) rfl (by kernel_rfl) (fun _ _ _ h => h) (Or.inl ⟨by rfl, ?_⟩) (by assumption) ?_
              rotate_left
              · intro w hSw
                go_split_ands
                go_simp
                try with_reducible rfl
              simp only [Act.put]
              refine HeadI.take (i := 2) (v := ?_) rfl (by kernel_rfl) (fun _ _ _ h => h) (Or.inl ⟨by rfl, ?_⟩) (by assumption) ?_
              rotate_left
              · intro w hSw
                go_split_ands
                go_simp
                try with_reducible rfl
              simp only [Act.put]
              refine HeadI.take (i := 3) (v := ?_) rfl (by kernel_rfl) (fun _ _ _ h => h) (Or.inl ⟨by rfl, ?_⟩) (by assumption) ?_
              rotate_left
              · intro w hSw
                go_split_ands
                go_simp
                try with_reducible rfl
              simp only [Act.put]
              refine HeadI.take (i := 4) (v := ?_) rfl (by kernel_rfl) (fun _ _ _ h => h) (Or.inl ⟨by rfl, ?_⟩) (by assumption) ?_
              rotate_left
              · intro w hSw
                go_split_ands
                go_simp
                try with_reducible rfl
              simp only [Act.put]
              refine HeadI.take (i := 5) (v := ?_) rfl (by kernel_rfl) (fun _ _ _ h => h) (Or.inl ⟨by rfl, ?_⟩) (by assumption) ?_
              rotate_left
              · intro w hSw
                go_split_ands
                go_simp
                try with_reducible rfl
              simp only [Act.put]
              refine HeadI.take (i := 6) (v := ?_) rfl (by kernel_rfl) (fun _ _ _ h => h) (Or.inl ⟨by rfl, ?_⟩) (by assumption) ?_
              rotate_left
              · intro w hSw
                go_split_ands
                go_simp
                try with_reducible rfl
              simp only [Act.put]
              refine HeadI.take (i := 7) (v := ?_) rfl (by kernel_rfl) (fun _ _ _ h => h) (Or.inl ⟨by rfl, ?_⟩) (by assumption) ?_
              rotate_left
              · intro w hSw
                go_split_ands
                go_simp
                try with_reducible rfl
              simp only [Act.put]
              refine HeadI.take (i := 8) (v := ?_) rfl (by kernel_rfl) (fun _ _ _ h => h) (Or.inl ⟨by rfl, ?_⟩) (by assumption) ?_
              rotate_left
              · intro w hSw
                go_split_ands
                go_simp
                try with_reducible rfl
              simp only [Act.put]
              refine HeadI.take (i := 9) (v := ?_) rfl (by kernel_rfl) (fun _ _ _ h => h) (Or.inl ⟨by rfl, ?_⟩) (by assumption) ?_
              rotate_left
              · intro w hSw
                go_split_ands
                go_simp
                try with_reducible rfl
              simp only [Act.put]
              refine HeadI.take (i := 10) (v := ?_) rfl (by kernel_rfl) (fun _ _ _ h => h) (Or.inl ⟨by rfl, ?_⟩) (by assumption) ?_
              rotate_left
              · intro w hSw
                go_split_ands
                go_simp
                try with_reducible rfl
              simp only [Act.put]
              refine HeadI.take (i := 11) (v := ?_) rfl (by kernel_rfl) (fun _ _ _ h => h) (Or.inl ⟨by rfl, ?_⟩) (by assumption) ?_
              rotate_left
              · intro w hSw
                go_split_ands
                go_simp
                try with_reducible rfl
              simp only [Act.put]
              refine HeadI.take (i := 12) (v := ?_) rfl (by kernel_rfl) (fun _ _ _ h => h) (Or.inl ⟨by rfl, ?_⟩) (by assumption) ?_
              rotate_left
              · intro w hSw
                go_split_ands
                go_simp
                try with_reducible rfl
              simp only [Act.put]
              refine HeadI.take (i := 13) (v := ?_) rfl (by kernel_rfl) (fun _ _ _ h => h) (Or.inl ⟨by rfl, ?_⟩) (by assumption) ?_
              rotate_left
              · intro w hSw
                go_split_ands
                go_simp
                try with_reducible rfl
              simp only [Act.put]
              refine HeadI.take (i := 14) (v := ?_) rfl (by kernel_rfl) (fun _ _ _ h => h) (Or.inl ⟨by rfl, ?_⟩) (by assumption) ?_
              rotate_left
              · intro w hSw
                go_split_ands
                go_simp
                try with_reducible rfl
              simp only [Act.put]
              refine HeadI.take (i := 15) (v := ?_) rfl (by kernel_rfl) (fun _ _ _ h => h) (Or.inl ⟨by rfl, ?_⟩) (by assumption) ?_
              rotate_left
              · intro w hSw
                go_split_ands
                go_simp
                try with_reducible rfl
              simp only [Act.put]
              refine HeadI.take (i := 16) (v := ?_) rfl (by kernel_rfl) (fun _ _ _ h => h) (Or.inl ⟨by rfl, ?_⟩) (by assumption) ?_
              rotate_left
              · intro w hSw
                go_split_ands
                go_simp
                try with_reducible rfl
              simp only [Act.put]
              refine HeadI.take (i := 17) (v := ?_) rfl (by kernel_rfl) (fun _ _ _ h => h) (Or.inl ⟨by rfl, ?_⟩) (by assumption) ?_
              rotate_left
              · intro w hSw
                go_split_ands
                go_simp
                try with_reducible rfl
              simp only [Act.put]
              refine HeadI.take (i := 18) (v := ?_) rfl (by kernel_rfl) (fun _ _ _ h => h) (Or.inl ⟨by rfl, ?_⟩) (by assumption) ?_
              rotate_left
              · intro w hSw
                go_split_ands
                go_simp
                try with_reducible rfl
              simp only [Act.put]
              refine HeadI.take (i := 19) (v := ?_) rfl (by kernel_rfl) (fun _ _ _ h => h) (Or.inl ⟨by rfl, ?_⟩) (by assumption) ?_
              rotate_left
              · intro w hSw
                go_split_ands
                go_simp
                try with_reducible rfl
              simp only [Act.put]
              refine HeadI.take (i := 20) (v := ?_) rfl (by kernel_rfl) (fun _ _ _ h => h) (Or.inl ⟨by rfl, ?_⟩) (by assumption) ?_
              rotate_left
              · intro w hSw
                go_split_ands
                go_simp
                try with_reducible rfl
              simp only [Act.put]
              refine HeadI.only (i := 21) rfl rfl (by kernel_rfl) (by omega) ?_
              go_simp
              refine ⟨?hs, ?_⟩
              case hs =>
                have G := (Below.refl wr.heap.size wr).alloc' (.cells #[.int .i64 x.frame, .int .i64 x.fn, .bool x.has, .int .u8 0, .int .i64 0, .string ByteArray.empty, .slice none 0 0, .bool false] 81)
                exact ⟨G.keep c1, G.keep c2, G.keep p0, G.keep p1, G.keep p2⟩
              refine HeadI.seq (by kernel_rfl) ?_
              simp only [List.drop_succ_cons, List.drop_zero]
              refine append_one Try.uDf Try.iDf Df.cells_length (by decide) Df.flat_one _ rfl _ _ rfl w3.heap.size _ ((y.ds.take n).map Df.bare) rfl wr.heap.size 1 x.bare rfl ?row 81 #[.int .i64 x.frame, .int .i64 x.fn, .bool x.has, .int .u8 0, .int .i64 0, .string ByteArray.empty, .slice none 0 0, .bool false] rfl ?att ?len ?base ?_
              case row => exact World.ownsRow.alloc (HF.out.row.grown (grown_drew _ none) (by simp)) _
              case att => exact At.new _ _ _
              case len => simp; omega
              case base => exact Nat.le_trans HF.out.g.size (by simp)
              intro g2 q2 k2 w4 hr hg ho
              have HM := Lib.hid (HF.out.mid hg)
              have m1 : w4.cell? ⟨wo.heap.size + 1, 3, none⟩ = some v3 := by rw [HM.out.cell]; rfl
              have m2 : w4.frozen? ⟨wo.heap.size + 1, 3, none⟩ = false := HM.out.free 3
              have m3 : wo.heap.size + 1 < w4.heap.size := HM.out.lt
              have HR := Lib.hid (HF.out.step hg hr)
              clear hr hg ho
              go_wp2_with fail
              go_roundw
              case rel =>
                refine ⟨n + 1, .slice (some ⟨g2, 0, none⟩) q2 k2, by go_num, by omega, ?_⟩
                have e : (y.ds.take (n + 1)).map Df.bare = (y.ds.take n).map Df.bare ++ [x.bare] := by rw [List.take_add_one, HX.out]; simp
                rw [e]
                exact HR.out
              case measure => simp [intOf]; omega
            · have HQ := Lib.hid (HD.out.done hle hL hln)
              clear hL
              go_wp2_with fail
              clear c1 c2
              obtain ⟨w3, rfl⟩ : ∃ w3 : World, w3 = wr := ⟨_, rfl⟩
              go_loopw [9] (fun i wq => ∃ (n : Nat) (v2' : Value), i = .int .i64 n ∧ n ≤ y.ps.length ∧ BLoop Pn.cells 85 7 w3 (wo.heap.size + 1) 68 #[.int .u8 y.status, .int .i64 y.key, v2, v3, .slice none 0 0] 4 ((y.ps.take n).map Pn.bare) v2' wq) (fun i _ => y.ps.length - (intOf i).toNat)
              case atStart => exact ⟨0, .slice none 0 0, rfl, Nat.zero_le _, BLoop.start HQ.out.aY rfl⟩
              case round =>
                obtain ⟨n, v4, rfl, hle, hL⟩ := hrel
                have HF := Lib.hid hL
                have c1 : wr.cell? ⟨wo.heap.size, 4, none⟩ = some (.slice y.psP y.ps.length y.psC) := (hL.old HQ.out.aX (by omega)).cell 4
                have c2 : wr.cell? ⟨wo.heap.size + 1, 4, none⟩ = some v4 := hL.cell
                have HG2 := Lib.hid (grow_of_grown HQ.out.g hL.g (by omega))
                by_cases hln : n < y.ps.length
                · obtain ⟨x, hx⟩ : ∃ x, y.ps[n]? = some x := ⟨_, List.getElem?_eq_getElem hln⟩
                  obtain ⟨b1, o1, hp1, hb1, he1⟩ := HYI.out.ps.1.elem hx
                  obtain ⟨p0, p1, p2, p3, p4, p5, p6⟩ := ((he1.grow HG.out).grow HG2.out).pn
                  rw [hp1] at c1
                  have HX := Lib.hid hx
                  clear hx he1 hp1 hL p1 p2 p3 p4 p5
                  have hS0 : (fun w' => w'.cell? ⟨wo.heap.size, 4, none⟩ = some (.slice (some ⟨b1, o1, none⟩) y.ps.length y.psC) ∧ w'.cell? ⟨wo.heap.size + 1, 4, none⟩ = some v4 ∧ w'.cell? ⟨b1, o1 + n * 7, none⟩ = some (.int .u64 x.tag) ∧ w'.cell? ⟨b1, o1 + n * 7 + 6, none⟩ = some (.int .u64 x.flags)) wr.drew := ⟨c1, c2, p0, p6⟩
                  go_wp2_with fail
                  refine wp_region_head (n := 16) (fun w' => w'.cell? ⟨wo.heap.size, 4, none⟩ = some (.slice (some ⟨b1, o1, none⟩) y.ps.length y.psC) ∧ w'.cell? ⟨wo.heap.size + 1, 4, none⟩ = some v4 ∧ w'.cell? ⟨b1, o1 + n * 7, none⟩ = some (.int .u64 x.tag) ∧ w'.cell? ⟨b1, o1 + n * 7 + 6, none⟩ = some (.int .u64 x.flags)) (by kernel_rfl) (by simp) ?_
                  refine HeadI.take (i := 0) (v := ?_) rfl (by kernel_rfl) (fun _ _ _ h => h) (Or.inl ⟨by rfl, ?_⟩) (by assumption) ?_
                  rotate_left
                  · intro w hSw
                    go_split_ands
                    go_simp
                    try with_reducible rfl
                  simp only [Act.put]
                  refine HeadI.take (i := 1) (v := ?_) rfl (by kernel_rfl) (fun _ _ _ h => h) (Or.inl ⟨by rfl, ?_⟩) (by assumption) ?_
                  rotate_left
                  · intro w hSw
                    go_split_ands
                    go_simp
                    try with_reducible rfl
                  simp only [Act.put]
                  refine HeadI.take (i := 2) (v := ?_) rfl (by kernel_rfl) (fun _ _ _ h => h) (Or.inl ⟨by rfl, ?_⟩) (by assumption) ?_
                  rotate_left
                  · intro w hSw
                    go_split_ands
                    go_simp
                    try with_reducible rfl
                  simp only [Act.put]
                  refine HeadI.take (i := 3) (v := ?_) rfl (by kernel_rfl) (fun _ _ _ h => h) (Or.inl ⟨by rfl, ?_⟩) (by assumption) ?_
                  rotate_left
                  · intro w hSw
                    go_split_ands
                    go_simp
                    try with_reducible rfl
                  simp only [Act.put]
                  refine HeadI.take (i := 4) (v := ?_) rfl (by kernel_rfl) (fun _ _ _ h => h) (Or.inl ⟨by rfl, ?_⟩) (by assumption) ?_
                  rotate_left
                  · intro w hSw
                    go_split_ands
                    go_simp
                    try with_reducible rfl
                  simp only [Act.put]
                  refine HeadI.take (i := 5) (v := ?_) rfl (by kernel_rfl) (fun _ _ _ h => h) (Or.inl ⟨by rfl, ?_⟩) (by assumption) ?_
                  rotate_left
                  · intro w hSw
                    go_split_ands
                    go_simp
                    try with_reducible rfl
                  simp only [Act.put]
                  refine HeadI.take (i := 6) (v := ?_) rfl (by kernel_rfl) (fun _ _ _ h => h) (Or.inl ⟨by rfl, ?_⟩) (by assumption) ?_
                  rotate_left
                  · intro w hSw
                    go_split_ands
                    go_simp
                    try with_reducible rfl
                  simp only [Act.put]
                  refine HeadI.take (i := 7) (v := ?_) rfl (by kernel_rfl) (fun _ _ _ h => h) (Or.inl ⟨by rfl, ?_⟩) (by assumption) ?_
                  rotate_left
                  · intro w hSw
                    go_split_ands
                    go_simp
                    try with_reducible rfl
                  simp only [Act.put]
                  refine HeadI.take (i := 8) (v := ?_) rfl (by kernel_rfl) (fun _ _ _ h => h) (Or.inl ⟨by rfl, ?_⟩) (by assumption) ?_
                  rotate_left
                  · intro w hSw
                    go_split_ands
                    go_simp
                    try with_reducible rfl
                  simp only [Act.put]
                  refine HeadI.take (i := 9) (v := ?_) rfl (by kernel_rfl) (fun _ _ _ h => h) (Or.inl ⟨by rfl, ?_⟩) (by assumption) ?_
                  rotate_left
                  · intro w hSw
                    go_split_ands
                    go_simp
                    try with_reducible rfl
                  simp only [Act.put]
                  refine HeadI.take (i := 10) (v := ?_) rfl (by kernel_rfl) (fun _ _ _ h => h) (Or.inl ⟨by rfl, ?_⟩) (by assumption) ?_
                  rotate_left
                  · intro w hSw
                    go_split_ands
                    go_simp
                    try with_reducible rfl
                  simp only [Act.put]
                  refine HeadI.take (i := 11) (v := ?_) rfl (by kernel_rfl) (fun _ _ _ h => h) (Or.inl ⟨by rfl, ?_⟩) (by assumption) ?_
                  rotate_left
                  · intro w hSw
                    go_split_ands
                    go_simp
                    try with_reducible rfl
                  simp only [Act.put]
                  refine HeadI.take (i := 12) (v := ?_) rfl (by kernel_rfl) (fun _ _ _ h => h) (Or.inl ⟨by rfl, ?_⟩) (by assumption) ?_
                  rotate_left
                  · intro w hSw
                    go_split_ands
                    go_simp
                    try with_reducible rfl
                  simp only [Act.put]
                  refine HeadI.take (i := 13) (v := ?_) rfl (by kernel_rfl) (fun _ _ _ h => h) (Or.inl ⟨by rfl, ?_⟩) (by assumption) ?_
                  rotate_left
                  · intro w hSw
                    go_split_ands
                    go_simp
                    try with_reducible rfl
                  simp only [Act.put]
                  refine HeadI.take (i := 14) (v := ?_) rfl (by kernel_rfl) (fun _ _ _ h => h) (Or.inl ⟨by rfl, ?_⟩) (by assumption) ?_
                  rotate_left
                  · intro w hSw
                    go_split_ands
                    go_simp
                    try with_reducible rfl
                  simp only [Act.put]
                  refine HeadI.only (i := 15) rfl rfl (by kernel_rfl) (by omega) ?_
                  go_simp
                  refine ⟨?hs, ?_⟩
                  case hs =>
                    have G := (Below.refl wr.heap.size wr).alloc' (.cells #[.int .u64 x.tag, .int .u8 0, .int .i64 0, .string ByteArray.empty, .slice none 0 0, .bool false, .int .u64 x.flags] 85)
                    exact ⟨G.keep c1, G.keep c2, G.keep p0, G.keep p6⟩
                  refine HeadI.seq (by kernel_rfl) ?_
                  simp only [List.drop_succ_cons, List.drop_zero]
                  refine append_one Try.uPn Try.iPn Pn.cells_length (by decide) Pn.flat_one _ rfl _ _ rfl w3.heap.size _ ((y.ps.take n).map Pn.bare) rfl wr.heap.size 1 x.bare rfl ?row 85 #[.int .u64 x.tag, .int .u8 0, .int .i64 0, .string ByteArray.empty, .slice none 0 0, .bool false, .int .u64 x.flags] rfl ?att ?len ?base ?_
                  case row => exact World.ownsRow.alloc (HF.out.row.grown (grown_drew _ none) (by simp)) _
                  case att => exact At.new _ _ _
                  case len => simp; omega
                  case base => exact Nat.le_trans HF.out.g.size (by simp)
                  intro g2 q2 k2 w4 hr hg ho
                  have HM := Lib.hid (HF.out.mid hg)
                  have m1 : w4.cell? ⟨wo.heap.size + 1, 4, none⟩ = some v4 := by rw [HM.out.cell]; rfl
                  have m2 : w4.frozen? ⟨wo.heap.size + 1, 4, none⟩ = false := HM.out.free 4
                  have m3 : wo.heap.size + 1 < w4.heap.size := HM.out.lt
                  have HR := Lib.hid (HF.out.step hg hr)
                  clear hr hg ho
                  go_wp2_with fail
                  go_roundw
                  case rel =>
                    refine ⟨n + 1, .slice (some ⟨g2, 0, none⟩) q2 k2, by go_num, by omega, ?_⟩
                    have e : (y.ps.take (n + 1)).map Pn.bare = (y.ps.take n).map Pn.bare ++ [x.bare] := by rw [List.take_add_one, HX.out]; simp
                    rw [e]
                    exact HR.out
                  case measure => simp [intOf]; omega
                · have HZ := Lib.hid (HQ.out.done hle hL hln)
                  clear hL
                  obtain ⟨t, ht0, hat⟩ := HZ.out.made
                  have HT := Lib.hid ht0
                  have HA := Lib.hid hat
                  have HL := Lib.hid (HB.out.L.more (grown_of_grow HZ.out.g none) (by simp))
                  have q0 : wr.cell? ⟨wo.heap.size + 1, 0, none⟩ = some (.int .u8 t.status) := hat.cell 0
                  have q1 : wr.cell? ⟨wo.heap.size + 1, 1, none⟩ = some (.int .i64 t.key) := hat.cell 1
                  have q2 : wr.cell? ⟨wo.heap.size + 1, 2, none⟩ = some (.slice t.fsP t.fs.length t.fsC) := hat.cell 2
                  have q3 : wr.cell? ⟨wo.heap.size + 1, 3, none⟩ = some (.slice t.dsP t.ds.length t.dsC) := hat.cell 3
                  have q4 : wr.cell? ⟨wo.heap.size + 1, 4, none⟩ = some (.slice t.psP t.ps.length t.psC) := hat.cell 4
                  have q5 : wr.cell? ⟨w.heap.size + 1 + 1, 3, none⟩ = some v := HL.out.cell
                  clear ht0 hat c2
                  go_wp2_with (at_builtin; refine append_one Try.uRo Try.iRo Ro.cells_length (by decide) Ro.flat_one _ rfl _ _ rfl w1.heap.size _ ts rfl wr.heap.size 1 t rfl ?row 68 #[.int .u8 t.status, .int .i64 t.key, .slice t.fsP t.fs.length t.fsC, .slice t.dsP t.ds.length t.dsC, .slice t.psP t.ps.length t.psC] rfl ?att ?len ?base ?_)
                  case row => exact World.ownsRow.alloc HL.out.row _
                  case att => exact At.new _ _ _
                  case len => rw [HB.out.len]; omega
                  case base => exact Nat.le_trans HL.out.g.size (by simp)
                  intro g4 s4 k4 w4 hr hg ho
                  have HM := Lib.hid (HL.out.mid' hg)
                  have m1 : w4.cell? ⟨w.heap.size + 1 + 1, 3, none⟩ = some v := by rw [HM.out.cell]; rfl
                  have m2 : w4.frozen? ⟨w.heap.size + 1 + 1, 3, none⟩ = false := HM.out.free 3
                  have m3 : w.heap.size + 1 + 1 < w4.heap.size := HM.out.lt
                  have HR := Lib.hid (HL.out.step' hg hr)
                  have HFS := Lib.hid (fun (j : Nat) (u : Value) => HB.out.freshStep (j := j) (u := u) HY.out HZ.out.g HT.out hg (ho.imp id (fun h => by simpa using h)))
                  clear hr hg ho q0 q1 q2 q3 q4 q5 c1
                  go_wp2_with fail
                  go_roundw
                  case rel => exact ⟨w1, k + 1, .slice (some ⟨g4, 0, none⟩) s4 k4, ts ++ [t], by go_num, ⟨by omega, HB.out.g1, HB.out.sz, HB.out.aS, HB.out.aR, HR.out, by rw [List.length_append, HB.out.len]; rfl, HFS.out _ _⟩⟩
                  case measure => simp [intOf]; omega
    · obtain ⟨p, c, rfl, hup⟩ := hB.L.row.up Ro.cells_length
      have hO := hB.L.at'
      have hR := hB.L.old hB.aR (by omega)
      have q0 : wr.cell? ⟨w.heap.size + 1 + 1, 0, none⟩ = some (.int .u8 s.out) := hO.cell 0
      have q1 : wr.cell? ⟨w.heap.size + 1 + 1, 1, none⟩ = some (.int .i64 s.failing) := hO.cell 1
      have q2 : wr.cell? ⟨w.heap.size + 1 + 1, 2, none⟩ = some (.int .i64 s.steps) := hO.cell 2
      have q3 : wr.cell? ⟨w.heap.size + 1 + 1, 3, none⟩ = some (.slice p ts.length c) := hO.cell 3
      have r0 : wr.cell? ⟨w.heap.size + 1, 0, none⟩ = some (.int .u8 0) := hR.cell 0
      have r1 : wr.cell? ⟨w.heap.size + 1, 1, none⟩ = some (.int .i64 0) := hR.cell 1
      have r2 : wr.cell? ⟨w.heap.size + 1, 2, none⟩ = some (.int .i64 0) := hR.cell 2
      have r3 : wr.cell? ⟨w.heap.size + 1, 3, none⟩ = some (.slice none 0 0) := hR.cell 3
      have f0 : wr.frozen? ⟨w.heap.size + 1, 0, none⟩ = false := hR.free 0
      have f1 : wr.frozen? ⟨w.heap.size + 1, 1, none⟩ = false := hR.free 1
      have f2 : wr.frozen? ⟨w.heap.size + 1, 2, none⟩ = false := hR.free 2
      have f3 : wr.frozen? ⟨w.heap.size + 1, 3, none⟩ = false := hR.free 3
      have hz2 : w.heap.size + 1 < wr.heap.size := by omega
      have HU := Lib.hid hup
      have HRR := Lib.hid hR
      clear hO hR hB hup
      go_wp2_with fail
      have s0 : (wr.setCell ⟨w.heap.size + 1, 0, none⟩ (.int .u8 s.out)).cell? ⟨w.heap.size + 1, 0, none⟩ = some (.int .u8 s.out) := by rw [(HRR.out.set 0 _).cell]; rfl
      have s1 : ((wr.setCell ⟨w.heap.size + 1, 0, none⟩ (.int .u8 s.out)).setCell ⟨w.heap.size + 1, 1, none⟩ (.int .i64 s.failing)).cell? ⟨w.heap.size + 1, 1, none⟩ = some (.int .i64 s.failing) := by rw [((HRR.out.set 0 _).set 1 _).cell]; rfl
      have s2 : (((wr.setCell ⟨w.heap.size + 1, 0, none⟩ (.int .u8 s.out)).setCell ⟨w.heap.size + 1, 1, none⟩ (.int .i64 s.failing)).setCell ⟨w.heap.size + 1, 2, none⟩ (.int .i64 s.steps)).cell? ⟨w.heap.size + 1, 2, none⟩ = some (.int .i64 s.steps) := by rw [(((HRR.out.set 0 _).set 1 _).set 2 _).cell]; rfl
      have s3 : ((((wr.setCell ⟨w.heap.size + 1, 0, none⟩ (.int .u8 s.out)).setCell ⟨w.heap.size + 1, 1, none⟩ (.int .i64 s.failing)).setCell ⟨w.heap.size + 1, 2, none⟩ (.int .i64 s.steps)).setCell ⟨w.heap.size + 1, 3, none⟩ (.slice p ts.length c)).cell? ⟨w.heap.size + 1, 3, none⟩ = some (.slice p ts.length c) := by rw [((((HRR.out.set 0 _).set 1 _).set 2 _).set 3 _).cell]; rfl
      exact bodyPost_ret (v := .agg #[.int .u8 s.out, .int .i64 s.failing, .int .i64 s.steps, .slice p ts.length c]) (by simp [results, Try.results25, go_sem, s0, s1, s2, s3]) rfl (HB.out.done hlt _ _ _ _)
end Go.Proofs.Ytflbiiflbehleaa
