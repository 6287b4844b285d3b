import Derived.Test.YtflbiiflbehleaaWeight
import Derived.Laws.EntriesVeiled
namespace Go.Proofs.Ytflbiiflbehleaa
open Go.RowKit
theorem wrap64_idem (a : Int) : wrap64 (wrap64 a) = wrap64 a := by unfold wrap64; omega
/-- Nothing that lay before has turned, but for one block. -/
abbrev Bump (b : Nat) (w w' : World) : Prop := w.grownBy w' (some b)
theorem bump_trans {b : Nat} {w w1 w2 : World} (g : Bump b w w1) (h : Bump b w1 w2) : Bump b w w2 :=
  ⟨h.os.trans g.os, h.tape.trans g.tape, h.output.trans g.output, Nat.le_trans g.size h.size, fun k hk hne => (h.block k (Nat.lt_of_lt_of_le hk g.size) hne).trans (g.block k hk hne)⟩
theorem bump_grow {b : Nat} {w w' : World} (g : Grow w w') : Bump b w w' := ⟨g.os, g.tape, g.output, g.size, fun k hk _ => g.block k hk⟩
theorem bump_cell {b : Nat} {w w' : World} (g : Bump b w w') {p : Addr} {v : Value} (hp : p.block ≠ b) (h : w.cell? p = some v) : w'.cell? p = some v := by
  rw [World.cell?_of_block (w := w) (g.block p.block (cell_lt h) (by intro e; exact hp (Option.some.inj e)))]; exact h
theorem grow_bump {b : Nat} {w0 w w' : World} (h : Grow w0 w) (hb : w0.heap.size ≤ b) (g : Bump b w w') : Grow w0 w' :=
  h.trans ⟨g.os, g.tape, g.output, g.size, fun k hk => g.block k (Nat.lt_of_lt_of_le hk h.size) (by intro e; have := Option.some.inj e; omega)⟩
theorem bump_set {b : Nat} {w w1 : World} (g : Bump b w w1) (u : Value) : Bump b w (w1.setCell ⟨b, 0, none⟩ u) :=
  ⟨g.os, g.tape, g.output, by simpa [World.setCell] using g.size, fun k hk hne => (Below.heap_setCell _ _ _ _ (by intro e; exact hne (by rw [e]))).trans (g.block k hk hne)⟩
theorem bump_refl (b : Nat) (w : World) : Bump b w w := bump_grow (Below.refl _ _)
theorem bump_alloc {b : Nat} {w w1 : World} (g : Bump b w w1) (o : Obj) : Bump b w (w1.alloc o) := bump_trans g (bump_grow ((Below.refl _ _).alloc' _))
theorem alloc_at (w : World) (o : Obj) {n : Nat} (h : n = w.heap.size) : (w.alloc o).heap[n]? = some o := by
  subst h; show (w.heap.push o)[w.heap.size]? = some o; simp
/-- A block of one int. -/
def OneInt (w : World) (b : Nat) (n : Int) : Prop := w.heap[b]? = some (.cells #[.int .i64 n] 3 (0, 0))
theorem OneInt.cell {w : World} {b : Nat} {n : Int} (h : OneInt w b n) : w.cell? ⟨b, 0, none⟩ = some (.int .i64 n) := by
  simp only [World.cell?, OneInt] at *; rw [h]; rfl
theorem OneInt.free {w : World} {b : Nat} {n : Int} (h : OneInt w b n) : w.frozen? ⟨b, 0, none⟩ = false := by
  simp only [World.frozen?, OneInt] at *; rw [h]; rfl
theorem OneInt.grow {w w' : World} {b : Nat} {n : Int} (h : OneInt w b n) (g : Grow w w') : OneInt w' b n := by
  unfold OneInt at *
  rw [g.block b (Array.getElem?_eq_some_iff.1 h).1]; exact h
theorem OneInt.set {w : World} {b : Nat} {n : Int} (h : OneInt w b n) (m : Int) : OneInt (w.setCell ⟨b, 0, none⟩ (.int .i64 m)) b m := by
  unfold OneInt at *
  simp only [World.setCell, Array.getElem?_modify, h]
  simp
/-- What Weight's closure comes back with. -/
def Counted (b : Nat) (n : Int) (w : World) (e : Ending) (w' : World) : Prop := e = .returned (.int .i64 0) ∧ Bump b w w' ∧ OneInt w' b n
set_option maxRecDepth 100000 in
set_option maxHeartbeats 400000 in
theorem weight1 (v : V) (r : Int) (b : Nat) (x : Int) (w : World) (h : OneInt w b x) :
    Calls Try.prog 80 #[v.agg, .int .i64 r, .pointer (some ⟨b, 0, none⟩)] w (Counted b (wrap64 (x + 1)) w) := by
  have hlt : b < w.heap.size := cell_lt h.cell
  have h1 := h.cell
  have h2 := h.free
  have H := Lib.hid h
  clear h
  go_enter Try.func80, Try.ntmps80
  go_wp2_with fail
  go_ret
  exact ⟨rfl, bump_alloc (bump_set (bump_refl _ _) _) _, (H.out.set _).grow ((Below.refl _ _).alloc' _)⟩
set_option maxRecDepth 100000 in
set_option maxHeartbeats 400000 in
theorem each1 (N : Nat) : ∀ (v : V) (b gb sb : Nat) (x : Int) (w0 w : World), v.size ≤ N → v.In w0 → Grow w0 w → w0.heap.size ≤ b → gb ≠ b → sb ≠ b → wrap64 x = x → OneInt w b x →
    w.cell? ⟨gb, 0, none⟩ = some (.func (.func 81) #[] #[.pointer (some ⟨gb, 0, none⟩), .pointer (some ⟨sb, 0, none⟩)]) →
    w.cell? ⟨sb, 0, none⟩ = some (.func (.func 80) #[] #[.pointer (some ⟨b, 0, none⟩)]) →
    Calls Try.prog 81 #[v.agg, .pointer (some ⟨gb, 0, none⟩), .pointer (some ⟨sb, 0, none⟩)] w (Counted b (wrap64 (x + v.size)) w) := by
  induction N with
  | zero => intro v b gb sb x w0 w hN; have := v.size_pos; omega
  | succ N ih =>
  intro v b gb sb x w0 w hN hv hg0 hb0 hgb hsb hwx hone cg cs
  have HWX := Lib.hid hwx
  clear hwx
  have W1 := Lib.hid (fun (w1 : World) (y : Int) (h : OneInt w1 b y) => weight1 v 0 b y w1 h)
  have HUA := Lib.hid (V.upto_all v)
  have HI := Lib.hid ih
  have HN := Lib.hid hN
  have HV := Lib.hid hv
  have hm := hv.lies.bound
  have hbl : b < w.heap.size := cell_lt hone.cell
  have Hgb := Lib.hid hgb
  have Hsb := Lib.hid hsb
  have Hone := Lib.hid hone
  have Hcg := Lib.hid cg
  have Hcs := Lib.hid cs
  have hgl : gb < w.heap.size := cell_lt cg
  have hsl : sb < w.heap.size := cell_lt cs
  clear ih hN hv hgb hsb hone cg cs
  generalize hvs : v.size = vs at *
  have HVS := Lib.hid hvs
  clear hvs
  obtain ⟨vk, vn, vt, vp, vcap, vl, vc⟩ := v
  simp only [V.agg, V.k, V.n, V.t, V.p, V.cap, V.l, V.c] at *
  go_enter Try.func81, Try.ntmps81
  go_wp2_with fail
  go_loopw [5, 11] (fun r i wr => ∃ k : Nat, k ≤ vl.length ∧ i = .int .i64 k ∧ r = .int .i64 0 ∧ Bump b w wr ∧ OneInt wr b (wrap64 (x + V.upto vl k)) ∧ wr.cell? ⟨w.heap.size, 0, none⟩ = some (.int .u8 vk) ∧ wr.cell? ⟨w.heap.size, 1, none⟩ = some (.int .i64 vn) ∧ wr.cell? ⟨w.heap.size, 2, none⟩ = some (.string vt) ∧ wr.cell? ⟨w.heap.size, 3, none⟩ = some (.slice vp vl.length vcap) ∧ wr.cell? ⟨w.heap.size, 4, none⟩ = some (.bool vc)) (fun _ i _ => vl.length - (intOf i).toNat)
  case atStart => exact ⟨0, Nat.zero_le _, rfl, rfl, bump_grow ((Below.refl _ _).alloc' _), by rw [show ((V.upto vl 0 : Nat) : Int) = 0 from rfl, Int.add_zero, HWX.out]; exact Hone.out.grow ((Below.refl _ _).alloc' _), by go_simp, by go_simp, by go_simp, by go_simp, by go_simp⟩
  case round =>
    obtain ⟨k, hk, rfl, rfl, hbu, hon, d0, d1, d2, d3, d4⟩ := hrel
    have cg := bump_cell hbu (by exact Hgb.out) Hcg.out
    have cs := bump_cell hbu (by exact Hsb.out) Hcs.out
    by_cases hlt : k < vl.length
    · obtain ⟨y, hy⟩ : ∃ y, vl[k]? = some y := ⟨_, List.getElem?_eq_getElem hlt⟩
      obtain ⟨bb, o, rfl, hbb, he⟩ := HV.out.lies.elem (i := k) (x := y) hy
      obtain ⟨a0, a1, a2, a3, a4⟩ := (he.grow (grow_bump hg0 hb0 hbu)).v
      have hz := cell_lt a0
      simp only at hz
      have HY := Lib.hid hy
      have Hon := Lib.hid hon
      clear hy he hon
      have hgl' : gb < wr.heap.size := cell_lt cg
      have hsl' : sb < wr.heap.size := cell_lt cs
      have hwl : w.heap.size < wr.heap.size := cell_lt d0
      have ga : Grow wr (wr.alloc (.cells #[.int .u8 y.k, .int .i64 y.n, .string y.t, .slice y.p y.l.length y.cap, .bool y.c] 79)) := (Below.refl _ _).alloc' _
      have GA := Lib.hid ga
      clear ga
      go_wp2_with fail
      refine (HI.out y b gb sb _ w0 _ (by have h1 := V.size_lt (v := .mk vk vn vt (some ⟨bb, o, none⟩) vcap vl vc) (getElem?_mem' HY.out); have h2 := HN.out; have h3 := HVS.out; omega) (HV.out.mem y (getElem?_mem' HY.out)) ((grow_bump hg0 hb0 hbu).then GA.out) hb0 Hgb.out Hsb.out (wrap64_idem _) (Hon.out.grow GA.out) (GA.out.keep cg) (GA.out.keep cs)).mono ?_
      rintro e w' ⟨rfl, hbu', hon'⟩
      have hbw : Bump b wr w' := bump_trans (bump_grow GA.out) hbu'
      go_wp2_with fail
      exact ⟨⟨k + 1, by omega, by go_num, rfl, bump_trans hbu hbw, by rw [wrap64_add_left] at hon'; rw [V.upto_succ HY.out, show x + ((V.upto vl k + y.size : Nat) : Int) = x + V.upto vl k + y.size from by omega]; exact hon', bump_cell hbw (by simp; omega) d0, bump_cell hbw (by simp; omega) d1, bump_cell hbw (by simp; omega) d2, bump_cell hbw (by simp; omega) d3, bump_cell hbw (by simp; omega) d4⟩, by simp [intOf]; omega⟩
    · obtain rfl : k = vl.length := by omega
      have hgl' : gb < wr.heap.size := cell_lt cg
      have Hon := Lib.hid hon
      clear hon
      go_wp2_with fail
      refine (W1.out _ _ Hon.out).mono ?_
      rintro e w' ⟨rfl, hbu', hon'⟩
      go_wp2_with fail
      go_ret
      refine ⟨rfl, bump_trans hbu hbu', ?_⟩
      rw [wrap64_add_left] at hon'
      have e1 : x + (V.upto vl vl.length : Int) + 1 = x + vs := by have := HUA.out; omega
      rw [e1] at hon'
      exact hon'
set_option maxRecDepth 100000 in
set_option maxHeartbeats 400000 in
theorem locals_each (v : V) (b : Nat) (w0 w : World) (hv : v.In w0) (hg : Grow w0 w) (hb : w0.heap.size ≤ b) (h : OneInt w b 0) :
    Calls Try.prog 79 #[v.agg, .func (.func 80) #[] #[.pointer (some ⟨b, 0, none⟩)]] w (Counted b (wrap64 v.size) w) := by
  have hbl : b < w.heap.size := cell_lt h.cell
  have HV := Lib.hid hv
  have H := Lib.hid h
  clear hv h
  go_enter Try.func79, Try.ntmps79
  go_wp2_with fail
  refine (each1 v.size v b (w.heap.size + 1 + 1) (w.heap.size + 1) 0 w0 _ (Nat.le_refl _) HV.out (((hg.alloc' _).alloc' _).alloc' _) hb (by omega) (by omega) (wrap64_small (by omega) (by omega)) (H.out.grow ((((Below.refl _ _).alloc' _).alloc' _).alloc' _)) (by go_simp) (by go_simp)).mono ?_
  rintro e w' ⟨rfl, hbu, hon⟩
  rw [Int.zero_add] at hon
  have Hon := Lib.hid hon
  clear hon
  go_wp2_with fail
  go_ret
  exact ⟨rfl, bump_trans (bump_grow ((((Below.refl _ _).alloc' _).alloc' _).alloc' _)) hbu, Hon.out⟩
set_option maxRecDepth 100000 in
set_option maxHeartbeats 400000 in
theorem locals_Weight (v : V) (w : World) (hv : v.In w) :
    Calls Try.prog 73 #[v.agg] w fun e w' => e = .returned (.int .i64 (wrap64 v.size)) ∧ Grow w w' := by
  have HV := Lib.hid hv
  clear hv
  go_enter Try.func73, Try.ntmps73
  go_wp2_with fail
  refine (locals_each v (w.heap.size + 1) w _ HV.out (((Below.refl _ _).alloc' _).alloc' _) (by omega) (alloc_at _ _ (by simp))).mono ?_
  rintro e w' ⟨rfl, hbu, hon⟩
  have hc := hon.cell
  go_wp2_with fail
  go_ret
  exact ⟨rfl, grow_bump (((Below.refl _ _).alloc' _).alloc' _) (by omega) hbu⟩
end Go.Proofs.Ytflbiiflbehleaa
