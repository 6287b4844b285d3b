import Derived.Test.YtdlohaedegmiaaaGreatDoorEvAO
import Derived.Test.YtdlohaedegmiaaaGreatDoorEvAU
import Derived.Laws.Concat
import Derived.KernelRfl
namespace Go.Proofs.YtdlohaedegmiaaaGreatDoor.Tz
open Go.RowKit
structure MkV where
  a : Int
  b : Int
  c : Int
  d : Int
  e : Int
  f : Int
  g : Int
abbrev MkV.agg (x : MkV) : Value := .agg #[.int .i64 x.a, .int .i64 x.b, .int .i64 x.c, .int .i64 x.d, .int .u8 x.e, .int .i64 x.f, .int .u8 x.g]
def MkV.cells (x : MkV) : List Value := [.int .i64 x.a, .int .i64 x.b, .int .i64 x.c, .int .i64 x.d, .int .u8 x.e, .int .i64 x.f, .int .u8 x.g]
def n9 (s : Nat → List UInt8) : Nat → List UInt8
  | 0 => []
  | n + 1 => n9 s n ++ (s n ++ [10])
abbrev uy := Go.Proofs.YtdlohaedegmiaaaGreatDoor.Ev.uy
abbrev iZ (l : List UInt8) : Value := .string ⟨l.toArray⟩
theorem a5l (a b : List UInt8) : (⟨a.toArray⟩ ++ ⟨b.toArray⟩ : ByteArray) = ⟨(a ++ b).toArray⟩ := by
  apply ByteArray.ext
  simp [ByteArray.data_append]
theorem fp {P : Program} (a b : List UInt8) (h : a.length + b.length ≤ 9223372036854775807) (w : World) : (Op.stringOp .add ⟨a.toArray⟩ ⟨b.toArray⟩).run P w = .ok (iZ (a ++ b)) w := by
  rw [run_string_add_sum (P := P) (w := w) ⟨a.toArray⟩ ⟨b.toArray⟩ (by simpa [ByteArray.size] using h), a5l]
abbrev sY (l : List UInt8) (z : Int) : Value := .tuple #[iZ l, .int .i64 z]
def fM (v : Value) (w : World) (e : Ending) (w' : World) : Prop := e = .returned v ∧ Grow w w'
theorem nu (l : List UInt8) : Lib.strCells ⟨l.toArray⟩ = Lib.byteCells l := by
  simp [Lib.strCells, Lib.byteCells]
theorem qD {B b : Nat} {p : Value} {bs : List Value} {w w' : World} (h : Lib.BuilderAtF 64 5 B b p bs w) (g : Grow w w') : Lib.BuilderAtF 64 5 B b p bs w' := by
  obtain ⟨hB, v, hb, ⟨h1, h2⟩, hne⟩ := h
  refine ⟨hB, v, (g.block b (Array.getElem?_eq_some_iff.1 hb).1).trans hb, ⟨h1, ?_⟩, hne⟩
  rcases h2 with hn | ⟨g2, cap, cur, fz, e, hb2, hg2, r⟩
  · exact .inl hn
  · exact .inr ⟨g2, cap, cur, fz, e, hb2, (g.block g2 (Array.getElem?_eq_some_iff.1 hg2).1).trans hg2, r⟩
theorem lZ {B b : Nat} {bs : List Value} {w w' : World} (h : Lib.IsBuilderF 64 5 B b bs w) (g : Grow w w') : Lib.IsBuilderF 64 5 B b bs w' := h.imp (fun h => qD h g) (fun h => qD h g)
theorem mY (B b : Nat) (l m : List UInt8) (w : World) (h : Lib.IsBuilderF 64 5 B b (Lib.byteCells l) w) (hlen : l.length + m.length ≤ 140737488355328) (hB : B ≤ w.heap.size) :
    Calls Tryz.prog 17 #[.pointer (some ⟨b, 0, none⟩), iZ m] w fun e w' => e = .returned (.tuple #[.int .i64 m.length, .nilIface]) ∧ Lib.IsBuilderF 64 5 B b (Lib.byteCells (l ++ m)) w' ∧ Below B w w' := by
  refine (Tryz.Builder_WriteString_k B b (Lib.byteCells l) ⟨m.toArray⟩ w h (by rw [Lib.byteCells_length]; simpa [ByteArray.size] using hlen) hB).mono fun e w' ⟨h1, h2, h3, _⟩ => ⟨?_, .inr ?_, h3⟩
  · rw [h1]; simp [ByteArray.size]
  · rw [nu] at h2
    have e : Lib.byteCells (l ++ m) = Lib.byteCells l ++ Lib.byteCells m := by simp [Lib.byteCells]
    rw [e]; exact h2
def MkAt (w : World) (q : Option Addr) (n : Nat) (M : Nat → MkV) (c : Nat → Int) : Prop := n ≤ 2000 → n = 0 ∨ ∃ b off, q = some ⟨b, off, none⟩ ∧ ∀ j, j < n → (∀ i, i < j → c i = 0) → Has w b (off + j * 7) (M j).cells
theorem Has.mk7 {w : World} {b off : Nat} {x : MkV} (h : Has w b off x.cells) : w.cell? ⟨b, off, none⟩ = some (.int .i64 x.a) ∧ w.cell? ⟨b, off + 1, none⟩ = some (.int .i64 x.b) ∧ w.cell? ⟨b, off + 2, none⟩ = some (.int .i64 x.c) ∧ w.cell? ⟨b, off + 3, none⟩ = some (.int .i64 x.d) ∧ w.cell? ⟨b, off + 4, none⟩ = some (.int .u8 x.e) ∧ w.cell? ⟨b, off + 5, none⟩ = some (.int .i64 x.f) ∧ w.cell? ⟨b, off + 6, none⟩ = some (.int .u8 x.g) :=
  ⟨h 0 _ rfl, h 1 _ rfl, h 2 _ rfl, h 3 _ rfl, h 4 _ rfl, h 5 _ rfl, h 6 _ rfl⟩
def Res9 (n : Nat) (s : Nat → List UInt8) (c : Nat → Int) (r : Bool) (word : List UInt8) (cw : Int) (f u T : List UInt8) (z : Int) : Prop :=
  (2000 < n → T = [] ∧ z = 4) ∧ (n ≤ 2000 → (∀ k, k < n → (∀ j, j < k → c j = 0) → c k ≠ 0 → T = [] ∧ z = c k) ∧ ((∀ j, j < n → c j = 0) → (r = false → T = [] ∧ z = 8) ∧ (r = true → (cw ≠ 0 → T = [] ∧ z = cw) ∧ (cw = 0 → T = n9 s n ++ uy word f u ∧ z = 0))))
theorem lA {s : Nat → List UInt8} (h : ∀ j, (s j).length ≤ 1000000) : ∀ n, (n9 s n).length ≤ n * 1000001
  | 0 => Nat.zero_le _
  | n + 1 => by
    have := lA h n; have := h n
    simp only [n9, List.length_append, List.length_cons, List.length_nil]; omega
structure pR (w : World) (p0 p1 p2 : Option Addr) (n0 n1 n2 k0 k1 k2 : Nat) (o xf xu : Int) (wr : World) : Prop where
  g : Grow w wr
  s : w.heap.size + 2 ≤ wr.heap.size
  m0 : wr.cell? ⟨w.heap.size, 0, none⟩ = some (.slice p0 n0 k0)
  m1 : wr.cell? ⟨w.heap.size, 1, none⟩ = some (.slice p1 n1 k1)
  m2 : wr.cell? ⟨w.heap.size, 2, none⟩ = some (.slice p2 n2 k2)
  x0 : wr.cell? ⟨w.heap.size + 1, 0, none⟩ = some (.int .u8 o)
  x1 : wr.cell? ⟨w.heap.size + 1, 1, none⟩ = some (.int .i64 xf)
  x2 : wr.cell? ⟨w.heap.size + 1, 2, none⟩ = some (.int .i64 xu)
theorem pR.mono {w : World} {p0 p1 p2 : Option Addr} {n0 n1 n2 k0 k1 k2 : Nat} {o xf xu : Int} {wr wr' : World} (h : pR w p0 p1 p2 n0 n1 n2 k0 k1 k2 o xf xu wr) (b : Below (w.heap.size + 2) wr wr') : pR w p0 p1 p2 n0 n1 n2 k0 k1 k2 o xf xu wr' := by
  have k : ∀ (b' i : Nat) (v : Value), b' < w.heap.size + 2 → wr.cell? ⟨b', i, none⟩ = some v → wr'.cell? ⟨b', i, none⟩ = some v := fun b' i v hb hv => by
    rw [b.cell hb]; exact hv
  exact ⟨h.g.trans (b.mono (by omega)), Nat.le_trans h.s b.size, k _ _ _ (by omega) h.m0, k _ _ _ (by omega) h.m1, k _ _ _ (by omega) h.m2, k _ _ _ (by omega) h.x0, k _ _ _ (by omega) h.x1, k _ _ _ (by omega) h.x2⟩
theorem pR.grow {w : World} {p0 p1 p2 : Option Addr} {n0 n1 n2 k0 k1 k2 : Nat} {o xf xu : Int} {wr wr' : World} (h : pR w p0 p1 p2 n0 n1 n2 k0 k1 k2 o xf xu wr) (b : Grow wr wr') : pR w p0 p1 p2 n0 n1 n2 k0 k1 k2 o xf xu wr' := h.mono (b.mono h.s)
theorem three {w : World} {a b c : Value} {t : TypeId} : (w.alloc (.cells #[a, b, c] t)).cell? ⟨w.heap.size, 0, none⟩ = some a ∧ (w.alloc (.cells #[a, b, c] t)).cell? ⟨w.heap.size, 1, none⟩ = some b ∧ (w.alloc (.cells #[a, b, c] t)).cell? ⟨w.heap.size, 2, none⟩ = some c := by
  have e : (w.alloc (.cells #[a, b, c] t)).heap[w.heap.size]? = some (.cells #[a, b, c] t) := Array.getElem?_push_size
  refine ⟨?_, ?_, ?_⟩ <;> (rw [Lib.cell_of_heap e]; rfl)
theorem sU (w : World) (o : Obj) : (w.alloc o).heap.size = w.heap.size + 1 := Array.size_push _
theorem uC (w : World) (p0 p1 p2 : Option Addr) (n0 n1 n2 k0 k1 k2 : Nat) (o xf xu : Int) (ob : Obj) : pR w p0 p1 p2 n0 n1 n2 k0 k1 k2 o xf xu (((w.alloc (.cells #[.slice p0 n0 k0, .slice p1 n1 k1, .slice p2 n2 k2] 34)).alloc (.cells #[.int .u8 o, .int .i64 xf, .int .i64 xu] 38)).alloc ob) := by
  obtain ⟨a0, a1, a2⟩ := @three w (.slice p0 n0 k0) (.slice p1 n1 k1) (.slice p2 n2 k2) 34
  generalize hW1 : w.alloc (.cells #[.slice p0 n0 k0, .slice p1 n1 k1, .slice p2 n2 k2] 34) = W1 at a0 a1 a2
  have s1 : W1.heap.size = w.heap.size + 1 := by rw [← hW1, sU]
  have g1 : Grow w W1 := by rw [← hW1]; exact (Below.refl _ _).jS _
  obtain ⟨b0, b1, b2⟩ := @three W1 (.int .u8 o) (.int .i64 xf) (.int .i64 xu) 38
  generalize hW2 : W1.alloc (.cells #[.int .u8 o, .int .i64 xf, .int .i64 xu] 38) = W2 at b0 b1 b2
  have s2 : W2.heap.size = w.heap.size + 2 := by rw [← hW2, sU, s1]
  have g2 : Grow W1 W2 := by rw [← hW2]; exact (Below.refl _ _).jS _
  have g3 : Grow W2 (W2.alloc ob) := (Below.refl _ _).jS _
  rw [s1] at b0 b1 b2
  exact ⟨g1.then (g2.then g3), by rw [sU, s2]; omega, (g2.then g3).keep a0, (g2.then g3).keep a1, (g2.then g3).keep a2, g3.keep b0, g3.keep b1, g3.keep b2⟩
set_option maxRecDepth 100000 in
set_option maxHeartbeats 4000000 in
theorem ef (w : World) (p0 p1 p2 : Option Addr) (n0 n1 n2 k0 k1 k2 : Nat) (q : Option Addr) (n cap : Nat) (M : Nat → MkV) (o xf xu : Int) (s : Nat → List UInt8) (c : Nat → Int) (r : Bool) (word : List UInt8) (cw : Int) (f u T : List UInt8) (z : Int)
    (hM : MkAt w q n M c) (hs : ∀ j, (s j).length ≤ 1000000) (hw : word.length ≤ 1000000) (hf : f.length ≤ 1000000) (hu : u.length ≤ 1000000)
    (C5 : n ≤ 2000 → ∀ j, j < n → (∀ i, i < j → c i = 0) → ∀ w', Grow w w' → Calls Tryz.prog 15 #[.agg #[.slice p0 n0 k0, .slice p1 n1 k1, .slice p2 n2 k2], (M j).agg] w' (fM (sY (s j) (c j)) w'))
    (C33 : n ≤ 2000 → (∀ i, i < n → c i = 0) → ∀ w', Grow w w' → Calls Tryz.prog 18 #[.agg #[.int .u8 o, .int .i64 xf, .int .i64 xu]] w' (fM (.bool r) w'))
    (C20 : n ≤ 2000 → (∀ i, i < n → c i = 0) → r = true → ∀ w', Grow w w' → Calls Tryz.prog 19 #[.int .u8 o] w' (fM (sY word cw) w'))
    (C19 : n ≤ 2000 → (∀ i, i < n → c i = 0) → r = true → cw = 0 → ∀ w', Grow w w' → Calls Tryz.prog 20 #[.int .i64 xf] w' (fM (iZ f) w') ∧ Calls Tryz.prog 20 #[.int .i64 xu] w' (fM (iZ u) w'))
    (hR : Res9 n s c r word cw f u T z) :
    Calls Tryz.prog 8 #[.agg #[.slice p0 n0 k0, .slice p1 n1 k1, .slice p2 n2 k2], .slice q n cap, .agg #[.int .u8 o, .int .i64 xf, .int .i64 xu]] w (fM (sY T z) w) := by
  have HM := Lib.hid hM
  have HR := Lib.hid hR
  have K5 := Lib.hid C5
  have K33 := Lib.hid C33
  have K20 := Lib.hid C20
  have K19 := Lib.hid C19
  have HS := Lib.hid hs
  have HL := Lib.hid (And.intro hw (And.intro hf hu))
  clear hM hR C5 C33 C20 C19 hs hw hf hu
  by_cases hn : n ≤ 2000
  case neg =>
    obtain ⟨e1, e2⟩ := HR.out.1 (by omega)
    subst e1 e2
    have t1 : decide ((2000 : Int) < (n : Int)) = true := by simp; omega
    go_enter Tryz.func8, Tryz.ntmps8
    go_wp2_with fail
    go_ret2
    exact ⟨rfl, ((Below.refl _ _).jS _).jS _⟩
  have t1 : decide ((2000 : Int) < (n : Int)) = false := by simp; omega
  have nb : n ≤ 9223372036854775807 := by omega
  go_enter Tryz.func8, Tryz.ntmps8
  go_wp2_with fail
  go_loopw [20] (fun i wr => ∃ k : Nat, k ≤ n ∧ i = .int .i64 k ∧ (∀ j, j < k → c j = 0) ∧ pR w p0 p1 p2 n0 n1 n2 k0 k1 k2 o xf xu wr ∧ Lib.IsBuilderF 64 5 (w.heap.size + 2) (w.heap.size + 2) (Lib.byteCells (n9 s k)) wr) (fun i _ => n - (intOf i).toNat)
  case atStart =>
    have hB := Lib.fresh_isBuilder 64 5 ((w.alloc (.cells #[.slice p0 n0 k0, .slice p1 n1 k1, .slice p2 n2 k2] 34)).alloc (.cells #[.int .u8 o, .int .i64 xf, .int .i64 xu] 38))
    rw [sU, sU] at hB
    refine ⟨0, Nat.zero_le _, rfl, fun j hj => absurd hj (Nat.not_lt_zero _), uC _ _ _ _ _ _ _ _ _ _ _ _ _ _, ?_⟩
    exact .of hB
  case round =>
    obtain ⟨k, hk, rfl, hz, hI, hB⟩ := hrel
    by_cases hlt : k < n
    · obtain ⟨b, off, rfl, hcs⟩ : ∃ b off, q = some ⟨b, off, none⟩ ∧ ∀ j, j < n → (∀ i, i < j → c i = 0) → Has w b (off + j * 7) (M j).cells := by
        rcases HM.out hn with e | e
        · omega
        · exact e
      obtain ⟨a0, a1, a2, a3, a4, a5, a6⟩ := ((hcs k hlt hz).grow hI.g).mk7
      have hbz : b < wr.heap.size := wo a0
      have c0 := hI.m0
      have c1 := hI.m1
      have c2 := hI.m2
      have GA := Lib.hid (show Grow wr (wr.alloc (.cells #[.int .i64 (M k).a, .int .i64 (M k).b, .int .i64 (M k).c, .int .i64 (M k).d, .int .u8 (M k).e, .int .i64 (M k).f, .int .u8 (M k).g] 24)) from (Below.refl _ _).jS _)
      have HI := Lib.hid hI
      have HB := Lib.hid hB
      have HZ := Lib.hid hz
      have hzs : w.heap.size < wr.heap.size := by have := hI.s; omega
      clear hI hB hz hcs
      by_cases hck : c k = 0
      · have t2 : (c k != 0) = false := by simp [hck]
        have hcat : ∀ w', (Op.stringOp .add ⟨(s k).toArray⟩ ⟨#[10]⟩).run Tryz.prog w' = .ok (iZ (s k ++ [10])) w' := fun w' => fp (P := Tryz.prog) (s k) [10] (by have := HS.out k; simp only [List.length_cons, List.length_nil]; omega) w'
        have HCK := Lib.hid hck
        clear hck
        go_wp2_with (go_at_call 15; refine (K5.out hn k hlt HZ.out _ (HI.out.g.then GA.out)).mono ?_; rintro e w5 ⟨rfl, h5⟩)
        refine (mY (w.heap.size + 2) (w.heap.size + 2) (n9 s k) (s k ++ [10]) w5 (lZ HB.out (GA.out.then h5)) ?_ ?_).mono ?_
        · have := lA HS.out k; have := HS.out k; simp only [List.length_append, List.length_cons, List.length_nil]; omega
        · have := HI.out.s; have := GA.out.size; have := h5.size; omega
        rintro e w6 ⟨rfl, hb6, hbl⟩
        have HZ' : ∀ j, j < k + 1 → c j = 0 := fun j hj => by
          rcases Nat.lt_succ_iff_lt_or_eq.1 hj with h | rfl
          · exact HZ.out j h
          · exact HCK.out
        have HI' := (HI.out.grow (GA.out.then h5)).mono hbl
        go_wp2_with fail
        exact ⟨⟨k + 1, by omega, by go_num, HZ', HI', hb6⟩, by simp [intOf]; omega⟩
      · have t2 : (c k != 0) = true := by simp [hck]
        go_wp2_with (go_at_call 15; refine (K5.out hn k hlt HZ.out _ (HI.out.g.then GA.out)).mono ?_; rintro e w5 ⟨rfl, h5⟩)
        go_ret2
        obtain ⟨e1, e2⟩ := (HR.out.2 hn).1 k hlt HZ.out hck
        subst e1 e2
        exact ⟨rfl, HI.out.g.then (GA.out.then h5)⟩
    · obtain rfl : k = n := by omega
      have c0 := hI.x0
      have c1 := hI.x1
      have c2 := hI.x2
      have HI := Lib.hid hI
      have HB := Lib.hid hB
      have HZ := Lib.hid hz
      clear hI hB hz
      have HU := Lib.hid ((HR.out.2 hn).2 HZ.out)
      cases r with
      | false =>
        go_wp2_with (go_at_call 18; refine (K33.out hn HZ.out _ HI.out.g).mono ?_; rintro e w5 ⟨rfl, h5⟩)
        go_ret2
        obtain ⟨e1, e2⟩ := HU.out.1 (by first | rfl | trivial)
        subst e1 e2
        exact ⟨rfl, HI.out.g.then h5⟩
      | true =>
        by_cases hcw : cw = 0
        · have t2 : (cw != 0) = false := by simp [hcw]
          obtain ⟨e1, e2⟩ := (HU.out.2 (by first | rfl | trivial)).2 hcw
          subst e1 e2
          have HCW := Lib.hid hcw
          clear hcw
          go_wp2_with (first
            | (go_at_call 18; refine (K33.out hn HZ.out _ HI.out.g).mono ?_; rintro e w5 ⟨rfl, h5⟩; have q0 := h5.keep c0; have q1 := h5.keep c1; have q2 := h5.keep c2; have H5 := Lib.hid h5; clear h5 c0 c1 c2)
            | (go_at_call 19; refine (K20.out hn HZ.out (by first | rfl | trivial) _ (HI.out.g.then H5.out)).mono ?_; rintro e w6 ⟨rfl, h6⟩; have r0 := h6.keep q0; have r1 := h6.keep q1; have r2 := h6.keep q2; have H6 := Lib.hid h6; clear h6 q0 q1 q2))
          obtain ⟨y0, hy0⟩ : ∃ y, y = [101, 110, 100, 101, 100, 32] ++ word := ⟨_, rfl⟩
          have l0 : y0.length = [101, 110, 100, 101, 100, 32].length + word.length := by rw [hy0]; exact List.length_append
          have x0 : ∀ w', (Op.stringOp .add ⟨#[101, 110, 100, 101, 100, 32]⟩ ⟨word.toArray⟩).run Tryz.prog w' = .ok (iZ y0) w' := fun w' => by
            rw [hy0]
            exact fp (P := Tryz.prog) [101, 110, 100, 101, 100, 32] word (by have := HL.out; simp only [List.length_cons, List.length_nil] at *; omega) w'
          obtain ⟨y1, hy1⟩ : ∃ y, y = y0 ++ [44, 32, 102, 97, 105, 108, 105, 110, 103, 32] := ⟨_, rfl⟩
          have l1 : y1.length = y0.length + [44, 32, 102, 97, 105, 108, 105, 110, 103, 32].length := by rw [hy1]; exact List.length_append
          have x1 : ∀ w', (Op.stringOp .add ⟨y0.toArray⟩ ⟨#[44, 32, 102, 97, 105, 108, 105, 110, 103, 32]⟩).run Tryz.prog w' = .ok (iZ y1) w' := fun w' => by
            rw [hy1]
            exact fp (P := Tryz.prog) y0 [44, 32, 102, 97, 105, 108, 105, 110, 103, 32] (by have := HL.out; simp only [List.length_cons, List.length_nil] at *; omega) w'
          obtain ⟨y2, hy2⟩ : ∃ y, y = y1 ++ f := ⟨_, rfl⟩
          have l2 : y2.length = y1.length + f.length := by rw [hy2]; exact List.length_append
          have x2 : ∀ w', (Op.stringOp .add ⟨y1.toArray⟩ ⟨f.toArray⟩).run Tryz.prog w' = .ok (iZ y2) w' := fun w' => by
            rw [hy2]
            exact fp (P := Tryz.prog) y1 f (by have := HL.out; simp only [List.length_cons, List.length_nil] at *; omega) w'
          obtain ⟨y3, hy3⟩ : ∃ y, y = y2 ++ [44, 32, 117, 115, 101, 100, 32] := ⟨_, rfl⟩
          have l3 : y3.length = y2.length + [44, 32, 117, 115, 101, 100, 32].length := by rw [hy3]; exact List.length_append
          have x3 : ∀ w', (Op.stringOp .add ⟨y2.toArray⟩ ⟨#[44, 32, 117, 115, 101, 100, 32]⟩).run Tryz.prog w' = .ok (iZ y3) w' := fun w' => by
            rw [hy3]
            exact fp (P := Tryz.prog) y2 [44, 32, 117, 115, 101, 100, 32] (by have := HL.out; simp only [List.length_cons, List.length_nil] at *; omega) w'
          obtain ⟨y4, hy4⟩ : ∃ y, y = y3 ++ u := ⟨_, rfl⟩
          have l4 : y4.length = y3.length + u.length := by rw [hy4]; exact List.length_append
          have x4 : ∀ w', (Op.stringOp .add ⟨y3.toArray⟩ ⟨u.toArray⟩).run Tryz.prog w' = .ok (iZ y4) w' := fun w' => by
            rw [hy4]
            exact fp (P := Tryz.prog) y3 u (by have := HL.out; simp only [List.length_cons, List.length_nil] at *; omega) w'
          obtain ⟨y5, hy5⟩ : ∃ y, y = y4 ++ [10] := ⟨_, rfl⟩
          have l5 : y5.length = y4.length + [10].length := by rw [hy5]; exact List.length_append
          have x5 : ∀ w', (Op.stringOp .add ⟨y4.toArray⟩ ⟨#[10]⟩).run Tryz.prog w' = .ok (iZ y5) w' := fun w' => by
            rw [hy5]
            exact fp (P := Tryz.prog) y4 [10] (by have := HL.out; simp only [List.length_cons, List.length_nil] at *; omega) w'
          have HY := Lib.hid (show y5 = uy word f u ∧ y5.length ≤ 4000000 by
            refine ⟨by rw [hy5, hy4, hy3, hy2, hy1, hy0]; rfl, ?_⟩
            have := HL.out; simp only [List.length_cons, List.length_nil] at *; omega)
          clear l0 l1 l2 l3 l4 l5 hy0 hy1 hy2 hy3 hy4 hy5
          have K1 : ∀ d : j7 w6, d.w'.cell? ⟨w.heap.size + 1, 1, none⟩ = some (.int .i64 xf) := fun d => d.h.keep r1
          have K2 : ∀ d : j7 w6, d.w'.cell? ⟨w.heap.size + 1, 2, none⟩ = some (.int .i64 xu) := fun d => d.h.keep r2
          have G6 := Lib.hid (HI.out.g.then (H5.out.then H6.out))
          refine gX 13 (by kernel_rfl) (by kernel_rfl) ?_
          simp only [List.take_succ_cons, List.take_zero, List.drop_succ_cons, List.drop_zero]
          repeat (go_big_quiet_step ((go_at_call 20; first | exact Calls.later (K19.out hn HZ.out (by first | rfl | trivial) HCW.out _ (G6.out.then (j7.h _))).1 | exact Calls.later (K19.out hn HZ.out (by first | rfl | trivial) HCW.out _ (G6.out.then (j7.h _))).2)))
          refine wpQuiet_nil ?_
          rintro _ ⟨d, rfl⟩
          have HD := Lib.hid ((H5.out.then H6.out).then d.h)
          have HB' := Lib.hid (lZ HB.out HD.out)
          have HSZ := Lib.hid (show w.heap.size + 2 ≤ d.w'.heap.size by have := HI.out.s; have := HD.out.size; omega)
          have HI' := Lib.hid (HI.out.grow HD.out)
          clear K1 K2
          go_wp2_with (first
            | (go_at_call 17; refine (mY (w.heap.size + 2) (w.heap.size + 2) (n9 s k) y5 _ HB'.out (by have := lA HS.out k; have := HY.out.2; omega) HSZ.out).mono ?_; rintro e w8 ⟨rfl, h8, g8⟩; have HB2 := Lib.hid h8; have G8 := Lib.hid g8; clear h8 g8)
            | (go_at_call 21; refine (Tryz.Builder_String_any_k (w.heap.size + 2) (w.heap.size + 2) (n9 s k ++ y5) _ HB2.out (by have := HSZ.out; have := G8.out.size; omega)).mono ?_; rintro e w9 ⟨rfl, _, h9, _⟩))
          go_ret2
          refine ⟨?_, ((HI'.out.mono G8.out).mono h9).g⟩
          rw [← HY.out.1]
          rfl
        · have t2 : (cw != 0) = true := by simp [hcw]
          go_wp2_with (first
            | (go_at_call 18; refine (K33.out hn HZ.out _ HI.out.g).mono ?_; rintro e w5 ⟨rfl, h5⟩; have q0 := h5.keep c0; have q1 := h5.keep c1; have q2 := h5.keep c2; have H5 := Lib.hid h5; clear h5 c0 c1 c2)
            | (go_at_call 19; refine (K20.out hn HZ.out (by first | rfl | trivial) _ (HI.out.g.then H5.out)).mono ?_; rintro e w6 ⟨rfl, h6⟩))
          go_ret2
          obtain ⟨e1, e2⟩ := (HU.out.2 (by first | rfl | trivial)).1 hcw
          subst e1 e2
          exact ⟨rfl, HI.out.g.then (H5.out.then h6)⟩
end Go.Proofs.YtdlohaedegmiaaaGreatDoor.Tz
namespace Go.Proofs.YtdlohaedegmiaaaGreatDoor.Ev
section
variable {line right outc whole : ao} {m a x xa xb xc : AV} {t : Row} {o n k i : Nat} {acc s word f u : List UInt8} {c : Nat}
theorem a3j (h1 : bOf (jN (right.f (.nd x .lf .lf) .empty)) = some false) : fR right outc whole x xa xb xc acc = some ([], 8) := by
  rw [fR, h1]
theorem a3k (h1 : bOf (jN (right.f (.nd x .lf .lf) .empty)) = some true) (h2 : jG (jN (outc.f (.nd xa .lf .lf) .empty)) = some (word, 0)) (h3 : sOf (jN (whole.f (.nd xb .lf .lf) .empty)) = some f) (h4 : sOf (jN (whole.f (.nd xc .lf .lf) .empty)) = some u) :
    fR right outc whole x xa xb xc acc = some (acc ++ uy word f u, 0) := by
  rw [fR, h1]; dsimp only; rw [h2]; dsimp only; rw [h3]; dsimp only; rw [h4]; rfl
theorem vH (h1 : gS a = some (t, o, n)) (h2 : uB m = true) (h3 : lO x = some (xa, xb, xc)) (h4 : 2000 < n) : fS line right outc whole m a x = some ([], 4) := by
  rw [fS, h1]; dsimp only; rw [if_pos h2, h3]; dsimp only; rw [if_pos h4]
theorem zF (h1 : gS a = some (t, o, n)) (h2 : uB m = true) (h3 : lO x = some (xa, xb, xc)) (h4 : ¬ 2000 < n) (h5 : iM line m t o n 0 [] = some (acc, c)) (h6 : c ≠ 0) : fS line right outc whole m a x = some ([], c) := by
  rw [fS, h1]; dsimp only; rw [if_pos h2, h3]; dsimp only; rw [if_neg h4, h5]; dsimp only; rw [if_neg h6]
theorem a3n (h1 : gS a = some (t, o, n)) (h2 : uB m = true) (h3 : lO x = some (xa, xb, xc)) (h4 : ¬ 2000 < n) (h5 : iM line m t o n 0 [] = some (acc, 0)) : fS line right outc whole m a x = fR right outc whole x xa xb xc acc := by
  rw [fS, h1]; dsimp only; rw [if_pos h2, h3]; dsimp only; rw [if_neg h4, h5]; dsimp only; rw [if_pos rfl]
end
end Go.Proofs.YtdlohaedegmiaaaGreatDoor.Ev
open Go Go.Proofs.YtdlohaedegmiaaaGreatDoor.Ev
namespace Go.Proofs.YtdlohaedegmiaaaGreatDoor.Tz
section
variable {V : Env} {f : FuncId} {G : ao}
theorem ai.top (h : ai V f G) {l : Row} {v : AV} (e : jN (G.f l .empty) = some v) {w : World} {F : Nat → Prop} (hg : V.pL w F) (hi : ∀ B, F B → B < w.heap.size) {args : Array Value} (ha : eI w F bz l args) :
    Calls V.P f args w fun e w' => ∃ x, e = .returned x ∧ RowKit.Below w.heap.size w w' ∧ ∃ F' μ', ae w' F' μ' v x := by
  obtain ⟨hc, e⟩ := a5p e
  obtain ⟨_, v', hc', e', H⟩ := h l .empty _ e (by simp)
  cases e'
  have h0 := H w bz F args 0 (qK (fun _ => rfl) hi hg) ha
  have h1 : CallsIn Fence.wide 0 V.P f args w fun e w' => ∃ x, e = .returned x ∧ ∃ μ' F', ae w' F' μ' v x ∧ au V μ' F' hc w' ∧ bR bz F .empty w μ' F' hc w' := h0
  refine (callsIn_wide.1 h1).mono fun e w' ⟨x, e1, μ', F', h2, _, h4⟩ => ⟨x, e1, ⟨?_, ?_, h4.ext.io.2, h4.ext.size, fun B hB => h4.ext.keep B hB fun ho => gv ho.wb⟩, F', μ', h2⟩
  · exact (Prod.mk.inj h4.ext.io.1).1
  · exact (Prod.mk.inj h4.ext.io.1).2
end
theorem lF : ∀ n s, (eJ n s).length = n
  | 0, _ => rfl
  | n + 1, s => congrArg (· + 1) (lF n _)
theorem jJ (n s : Nat) : (tR n s).length = n := by unfold tR; rw [List.length_map, lF]
section
variable {w : World} {F : Nat → Prop} {μ : Mu}
theorem cx {i n : Nat} {x : Value} (h : ae w F μ (.int i n) x) : n < md i ∧ x = .int (kd i) ((kd i).wrap n) := by cases h with | int h => exact ⟨h, rfl⟩
theorem xR {s n : Nat} {x : Value} (h : ae w F μ (.str s n) x) : x = iZ (tR n s) := by
  cases h with
  | str =>
    rename_i b
    rw [show b.size = b.data.toList.length from rfl, gU]
theorem wrap_small {c : Nat} (h : c ≤ 1000) : (kd 3).wrap (c : Int) = c := by
  show IntKind.i64.wrap _ = _
  simp only [IntKind.wrap]
  first
    | omega
    | (simp [IntKind.bits, IntKind.signed]; omega)
theorem ae9 {v : AV} {l : List UInt8} {c : Nat} {x : Value} (h : jG (some v) = some (l, c)) (hx : ae w F μ v x) : x = sY l c ∧ c ≤ 1000 ∧ l.length ≤ 1000000 := by
  unfold jG at h
  split at h
  · rename_i o s n a i c' a2 m e
    injection e with e
    subst e
    split at h
    · rename_i hh
      obtain ⟨rfl, hc, hn⟩ := hh
      injection h with h
      injection h with h1 h2
      subst h1 h2
      refine ⟨?_, hc, by rw [jJ]; omega⟩
      cases hx with
      | bM us hl hu hr =>
        rename_i vs
        have hs : vs.size = 2 := by rw [← hl]; rfl
        have r0 := hr 0 (by omega)
        have r1 := hr 1 (by omega)
        have e0 := xR (s := s) (n := n) r0
        have e1 := (cx (i := 3) (n := c') r1).2
        rw [wrap_small hc] at e1
        have : vs = #[us 0, us 1] := by
          apply Array.ext
          · exact hs
          · intro i h1 h2
            have := hu i h1
            rw [Array.getElem?_eq_getElem h1] at this
            have hi : i = 0 ∨ i = 1 := by have : i < 2 := by omega
                                          omega
            rcases hi with rfl | rfl
            · injection this
            · injection this
        rw [this, e0, e1]
        rfl
    · cases h
  · cases h
theorem s_val {v : AV} {l : List UInt8} {x : Value} (h : sOf (some v) = some l) (hx : ae w F μ v x) : x = iZ l ∧ l.length ≤ 1000000 := by
  unfold sOf at h
  split at h
  · rename_i o s n e
    injection e with e
    subst e
    split at h
    · rename_i hn
      injection h with h
      subst h
      exact ⟨xR hx, by rw [jJ]; omega⟩
    · cases h
  · cases h
theorem b_val {v : AV} {b : Bool} {x : Value} (h : bOf (some v) = some b) (hx : ae w F μ v x) : x = .bool b := by
  unfold bOf at h
  split at h
  · rename_i o b' e
    injection e with e
    subst e
    injection h with h
    subst h
    cases hx; rfl
  · cases h
theorem vA {v : AV} {x : Value} (h : slF v = true) (hx : ae w F μ v x) : ∃ p n k, x = .slice p n k := by
  cases hx with
  | vs => exact ⟨_, _, _, rfl⟩
  | pP => exact ⟨_, _, _, rfl⟩
  | emp => exact ⟨_, _, _, rfl⟩
  | ju => exact ⟨_, _, _, rfl⟩
  | _ => cases h
theorem mU {cs : Array Value} {us : Nat → Value} (hs : cs.size = 3) (hu : ∀ i, i < 3 → cs[i]? = some (us i)) : cs = #[us 0, us 1, us 2] := by
  apply Array.ext
  · exact hs
  · intro i h1 h2
    have hi : i < 3 := by omega
    have := hu i hi
    rw [Array.getElem?_eq_getElem h1] at this
    rcases (by omega : i = 0 ∨ i = 1 ∨ i = 2) with rfl | rfl | rfl
    · injection this
    · injection this
    · injection this
theorem a4y {v : AV} {x : Value} (h : uB v = true) (hx : ae w F μ v x) : ∃ p0 n0 k0 p1 n1 k1 p2 n2 k2, x = .agg #[.slice p0 n0 k0, .slice p1 n1 k1, .slice p2 n2 k2] := by
  unfold uB at h
  split at h
  · rename_i o a _ b _ c _ n
    simp only [Bool.and_eq_true, decide_eq_true_eq] at h
    obtain ⟨⟨⟨rfl, h0⟩, h1⟩, h2⟩ := h
    cases hx with
    | agg us hs hu _ hr =>
      obtain ⟨p0, n0, k0, e0⟩ := vA h0 (hr 0 (by decide))
      obtain ⟨p1, n1, k1, e1⟩ := vA h1 (hr 1 (by decide))
      obtain ⟨p2, n2, k2, e2⟩ := vA h2 (hr 2 (by decide))
      exact ⟨p0, n0, k0, p1, n1, k1, p2, n2, k2, by rw [mU hs hu, e0, e1, e2]⟩
  · cases h
theorem a4m {v a b c : AV} {x : Value} (h : lO v = some (a, b, c)) (hx : ae w F μ v x) : ∃ o f u, x = .agg #[.int .u8 o, .int .i64 f, .int .i64 u] ∧ ae w F μ a (.int .u8 o) ∧ ae w F μ b (.int .i64 f) ∧ ae w F μ c (.int .i64 u) := by
  unfold lO at h
  split at h
  · split at h
    · rename_i o i0 a' _ i1 b' _ i2 c' _ n hh
      obtain ⟨rfl, rfl, rfl, rfl⟩ := hh
      injection h with h
      injection h with h1 h
      injection h with h2 h3
      subst h1 h2 h3
      cases hx with
      | agg us hs hu _ hr =>
        have r0 := hr 0 (by decide)
        have r1 := hr 1 (by decide)
        have r2 := hr 2 (by decide)
        obtain ⟨_, e0⟩ := cx (i := 4) (n := a') r0
        obtain ⟨_, e1⟩ := cx (i := 3) (n := b') r1
        obtain ⟨_, e2⟩ := cx (i := 3) (n := c') r2
        rw [e0] at r0
        rw [e1] at r1
        rw [e2] at r2
        exact ⟨_, _, _, by rw [mU hs hu, e0, e1, e2]; rfl, r0, r1, r2⟩
    · cases h
  · cases h
end
end Go.Proofs.YtdlohaedegmiaaaGreatDoor.Tz
namespace Go.Proofs.YtdlohaedegmiaaaGreatDoor.Tz
section
variable (line : ao) (m : AV) (t : Row) (o : Nat)
noncomputable def sJ (j : Nat) : List UInt8 := ((jG (jN (line.f (.nd m .lf (.nd (t.at (o + j)) .lf .lf)) .empty))).getD ([], 0)).1
noncomputable def cJ (j : Nat) : Nat := ((jG (jN (line.f (.nd m .lf (.nd (t.at (o + j)) .lf .lf)) .empty))).getD ([], 0)).2
def fX (j : Nat) : Prop := mkF (t.at (o + j)) = true ∧ jG (jN (line.f (.nd m .lf (.nd (t.at (o + j)) .lf .lf)) .empty)) = some (sJ line m t o j, cJ line m t o j)
theorem nU (n : Nat) : ∀ k i r z, i + k = n → iM line m t o k i (n9 (sJ line m t o) i) = some (r, z) → (∀ j, j < i → fX line m t o j ∧ cJ line m t o j = 0) →
    (z = 0 ∧ r = n9 (sJ line m t o) n ∧ ∀ j, j < n → fX line m t o j ∧ cJ line m t o j = 0) ∨ (∃ q, q < n ∧ (∀ j, j < q → fX line m t o j ∧ cJ line m t o j = 0) ∧ fX line m t o q ∧ cJ line m t o q ≠ 0 ∧ z = cJ line m t o q ∧ r = [])
  | 0, i, r, z, hi, h, hb => by
    obtain rfl : i = n := hi
    injection h with h
    injection h with h1 h2
    exact .inl ⟨h2.symm, h1.symm, hb⟩
  | k + 1, i, r, z, hi, h, hb => by
    rw [iM] at h
    split at h
    · rename_i hm
      cases hs : jG (jN (line.f (.nd m .lf (.nd (t.at (o + i)) .lf .lf)) .empty)) with
      | none => rw [hs] at h; cases h
      | some p =>
        obtain ⟨s, c⟩ := p
        rw [hs] at h
        dsimp only at h
        have es : sJ line m t o i = s := by unfold sJ; rw [hs]; rfl
        have ec : cJ line m t o i = c := by unfold cJ; rw [hs]; rfl
        have hg : fX line m t o i := ⟨hm, by rw [es, ec]; exact hs⟩
        split at h
        · rename_i hc
          refine nU n k (i + 1) r z (by omega) ?_ fun j hj => ?_
          · rw [← es] at h; exact h
          · rcases Nat.lt_succ_iff_lt_or_eq.1 hj with q | rfl
            · exact hb j q
            · exact ⟨hg, ec.trans hc⟩
        · rename_i hc
          injection h with h
          injection h with h1 h2
          exact .inr ⟨i, by omega, hb, hg, by rw [ec]; exact hc, by rw [ec]; exact h2.symm, h1.symm⟩
    · cases h
end
noncomputable def zJ (v : AV) : MkV := match v with
  | .agg (.nd (.int _ a) _ (.nd (.int _ b) _ (.nd (.int _ c) _ (.nd (.int _ d) _ (.nd (.int _ e) _ (.nd (.int _ f) _ (.nd (.int _ g) _ .lf))))))) _ => ⟨(kd 3).wrap a, (kd 3).wrap b, (kd 3).wrap c, (kd 3).wrap d, (kd 4).wrap e, (kd 3).wrap f, (kd 4).wrap g⟩
  | _ => ⟨0, 0, 0, 0, 0, 0, 0⟩
theorem rX {v : AV} {w : World} {F : Nat → Prop} {μ : Mu} {us : Nat → Value} (h : mkF v = true) (hu : ∀ i, i < 7 → ae w F μ (elc v i) (us i)) : ∀ j x, (zJ v).cells[j]? = some x → j < 7 ∧ us j = x := by
  unfold mkF at h
  split at h
  · rename_i o i0 a _ i1 b _ i2 c _ i3 d _ i4 e _ i5 f _ i6 g _ n
    simp only [decide_eq_true_eq] at h
    obtain ⟨rfl, rfl, rfl, rfl, rfl, rfl, rfl, rfl⟩ := h
    have e0 := (cx (i := 3) (n := a) (hu 0 (by decide))).2
    have e1 := (cx (i := 3) (n := b) (hu 1 (by decide))).2
    have e2 := (cx (i := 3) (n := c) (hu 2 (by decide))).2
    have e3 := (cx (i := 3) (n := d) (hu 3 (by decide))).2
    have e4 := (cx (i := 4) (n := e) (hu 4 (by decide))).2
    have e5 := (cx (i := 3) (n := f) (hu 5 (by decide))).2
    have e6 := (cx (i := 4) (n := g) (hu 6 (by decide))).2
    intro j x hj
    match j with
    | 0 => exact ⟨by decide, e0.trans (Option.some.inj hj)⟩
    | 1 => exact ⟨by decide, e1.trans (Option.some.inj hj)⟩
    | 2 => exact ⟨by decide, e2.trans (Option.some.inj hj)⟩
    | 3 => exact ⟨by decide, e3.trans (Option.some.inj hj)⟩
    | 4 => exact ⟨by decide, e4.trans (Option.some.inj hj)⟩
    | 5 => exact ⟨by decide, e5.trans (Option.some.inj hj)⟩
    | 6 => exact ⟨by decide, e6.trans (Option.some.inj hj)⟩
    | j + 7 => cases hj
  · cases h
theorem adI {v : AV} {w : World} {F : Nat → Prop} {us : Nat → Value} (h : mkF v = true) (hu : ∀ i, i < 7 → ae w F bz (elc v i) (us i)) : ae w F bz v (zJ v).agg := by
  have hc := rX h hu
  unfold mkF at h
  split at h
  · rename_i o i0 a l0 i1 b l1 i2 c l2 i3 d l3 i4 e l4 i5 f l5 i6 g l6 n
    simp only [decide_eq_true_eq] at h
    obtain ⟨rfl, rfl, rfl, rfl, rfl, rfl, rfl, rfl⟩ := h
    refine .agg us rfl (fun i hi => ?_) (fun i hi => ?_) fun i hi => hu i hi
    · have : ∃ x, (zJ (.agg (.nd (.int 3 a) l0 (.nd (.int 3 b) l1 (.nd (.int 3 c) l2 (.nd (.int 3 d) l3 (.nd (.int 4 e) l4 (.nd (.int 3 f) l5 (.nd (.int 4 g) l6 .lf))))))) 7)).cells[i]? = some x := by
        rcases (by omega : i = 0 ∨ i = 1 ∨ i = 2 ∨ i = 3 ∨ i = 4 ∨ i = 5 ∨ i = 6) with rfl | rfl | rfl | rfl | rfl | rfl | rfl <;> exact ⟨_, rfl⟩
      obtain ⟨x, hx⟩ := this
      rw [(hc i x hx).2, ← hx]
      exact List.getElem?_toArray
    · have : ∃ x, (zJ (.agg (.nd (.int 3 a) l0 (.nd (.int 3 b) l1 (.nd (.int 3 c) l2 (.nd (.int 3 d) l3 (.nd (.int 4 e) l4 (.nd (.int 3 f) l5 (.nd (.int 4 g) l6 .lf))))))) 7)).cells[i]? = some x := by
        rcases (by omega : i = 0 ∨ i = 1 ∨ i = 2 ∨ i = 3 ∨ i = 4 ∨ i = 5 ∨ i = 6) with rfl | rfl | rfl | rfl | rfl | rfl | rfl <;> exact ⟨_, rfl⟩
      obtain ⟨x, hx⟩ := this
      rw [(hc i x hx).2]
      revert hx
      match i with
      | 0 => intro hx; rw [← Option.some.inj hx]; rfl
      | 1 => intro hx; rw [← Option.some.inj hx]; rfl
      | 2 => intro hx; rw [← Option.some.inj hx]; rfl
      | 3 => intro hx; rw [← Option.some.inj hx]; rfl
      | 4 => intro hx; rw [← Option.some.inj hx]; rfl
      | 5 => intro hx; rw [← Option.some.inj hx]; rfl
      | 6 => intro hx; rw [← Option.some.inj hx]; rfl
      | j + 7 => omega
  · cases h
theorem args3 {w : World} {F : Nat → Prop} {μ : Mu} {a b c : AV} {p q r : Row} {args : Array Value} (h : eI w F μ (.nd a p (.nd b q (.nd c r .lf))) args) : ∃ x y z, args = #[x, y, z] ∧ ae w F μ a x ∧ ae w F μ b y ∧ ae w F μ c z := by
  obtain ⟨h1, h2⟩ := h
  obtain ⟨l⟩ := args
  match l with
  | [] => cases h1
  | [x] => cases h1
  | [x, y] => cases h1
  | [x, y, z] => exact ⟨x, y, z, rfl, h2 0 x rfl, h2 1 y rfl, h2 2 z rfl⟩
  | x :: y :: z :: u :: l => exact absurd h1 (by simp [len])
theorem tZ {w : World} {F : Nat → Prop} {μ : Mu} {a : AV} {x : Value} (h : ae w F μ a x) : eI w F μ (.nd a .lf .lf) #[x] :=
  ⟨rfl, fun i u hu => by
    match i with
    | 0 => injection hu with hu; subst hu; exact h
    | i + 1 => cases hu⟩
theorem a81 {w : World} {F : Nat → Prop} {μ : Mu} {a b : AV} {x y : Value} (h : ae w F μ a x) (k : ae w F μ b y) : eI w F μ (.nd a .lf (.nd b .lf .lf)) #[x, y] :=
  ⟨rfl, fun i u hu => by
    match i with
    | 0 => injection hu with hu; subst hu; exact h
    | 1 => injection hu with hu; subst hu; exact k
    | i + 2 => cases hu⟩
theorem a3R (t : Row) (o j i : Nat) (hi : i < 7) : cellAt 7 t (o * 7 + (j * 7 + i)) = elc (t.at (o + j)) i := by
  unfold cellAt
  rw [if_neg (by decide), show (o * 7 + (j * 7 + i)) / 7 = o + j by omega, show (o * 7 + (j * 7 + i)) % 7 = i by omega]
theorem zB {a : AV} {t : Row} {o n : Nat} {w : World} {F : Nat → Prop} {x : Value} (h : gS a = some (t, o, n)) (hx : ae w F bz a x) :
    ∃ q cap, x = .slice q n cap ∧ (n = 0 ∨ ∃ b off, q = some ⟨b, off, none⟩ ∧ F b ∧ ∀ j, j < n → mkF (t.at (o + j)) = true → Has w b (off + j * 7) (zJ (t.at (o + j))).cells ∧ ae w F bz (t.at (o + j)) (zJ (t.at (o + j))).agg) := by
  cases hx with
  | vs us hF hc hu h1 hr =>
    rename_i t' o' n' z' B off cap
    rw [gS] at h
    split at h
    · rename_i hz
      subst hz
      injection h with h
      injection h with h2 h
      injection h with h3 h4
      subst h2 h3 h4
      refine ⟨_, _, rfl, .inr ⟨B, off, rfl, hF, fun j hj hm => ?_⟩⟩
      have hr' : ∀ i, i < 7 → ae w F bz (elc (t'.at (o' + j)) i) (us (j * 7 + i)) := fun i hi => by
        rw [← a3R t' o' j i hi]; exact hr _ (by omega)
      refine ⟨fun i v hv => ?_, adI hm hr'⟩
      obtain ⟨hi, e⟩ := rX hm hr' i v hv
      rw [← e, Nat.add_assoc]
      exact hu _ (by omega)
    · cases h
  | pP =>
    rw [gS] at h
    split at h
    · injection h with h
      injection h with h2 h
      injection h with h3 h4
      subst h2 h3 h4
      exact ⟨_, _, rfl, .inl rfl⟩
    · cases h
  | emp =>
    injection h with h
    injection h with h2 h
    injection h with h3 h4
    subst h2 h3 h4
    exact ⟨_, _, rfl, .inl rfl⟩
  | ju =>
    injection h with h
    injection h with h2 h
    injection h with h3 h4
    subst h2 h3 h4
    exact ⟨_, _, rfl, .inl rfl⟩
  | _ => cases h
section
variable {vs : Vs} {line right outc whole : ao} (k5 : ai ⟨Tryz.prog, vs⟩ 15 line) (k33 : ai ⟨Tryz.prog, vs⟩ 18 right) (k20 : ai ⟨Tryz.prog, vs⟩ 19 outc) (k19 : ai ⟨Tryz.prog, vs⟩ 20 whole)
include k5 k33 k20 k19
theorem a3o {m a x : AV} {T : List UInt8} {z : Nat} (ht : fS line right outc whole m a x = some (T, z)) {w : World} {F : Nat → Prop} {vm va vx : Value} (hm : ae w F bz m vm) (hva : ae w F bz a va) (hx : ae w F bz x vx)
    (hg : Env.pL ⟨Tryz.prog, vs⟩ w F) (hi : ∀ B, F B → B < w.heap.size) : z ≤ 1000 ∧ Calls Tryz.prog 8 #[vm, va, vx] w (fM (sY T z) w) := by
  cases hsl : gS a with
  | none => rw [fS, hsl] at ht; cases ht
  | some p =>
  obtain ⟨t, o, n⟩ := p
  cases him : uB m with
  | false => rw [fS, hsl] at ht; dsimp only at ht; rw [if_neg (by rw [him]; decide)] at ht; cases ht
  | true =>
  cases hen : lO x with
  | none => rw [fS, hsl] at ht; dsimp only at ht; rw [if_pos him, hen] at ht; cases ht
  | some p =>
  obtain ⟨xa, xb, xc⟩ := p
  obtain ⟨p0, n0, c0, p1, n1, c1, p2, n2, c2, rfl⟩ := a4y him hm
  obtain ⟨q, cap, rfl, hq⟩ := zB hsl hva
  obtain ⟨ov, fv, uv, rfl, ha, hb, hc⟩ := a4m hen hx
  have later : ∀ {w' : World} {v : AV} {u : Value}, Grow w w' → ae w F bz v u → ae w' F bz v u := fun g h => h.mono (fun B hB => g.block B (hi B hB)) (fun _ h => h) fun _ _ h => h
  have jk : ∀ {w' : World}, Grow w w' → Env.pL ⟨Tryz.prog, vs⟩ w' F := fun g => hg.mono (fun B hB => g.block B (hi B hB)) fun _ h => h
  have fN : ∀ {w' : World}, Grow w w' → ∀ B, F B → B < w'.heap.size := fun g B hB => Nat.lt_of_lt_of_le (hi B hB) g.size
  have callsi : ∀ {f : FuncId} {G : ao} {l : Row} {args : Array Value} {s : List UInt8} {c : Nat} {w' : World}, ai ⟨Tryz.prog, vs⟩ f G → jG (jN (G.f l .empty)) = some (s, c) → Grow w w' → eI w' F bz l args → Calls Tryz.prog f args w' (fM (sY s c) w') := fun {f G l args s c w'} hG e g harg => by
    cases hv : jN (G.f l .empty) with
    | none => rw [hv] at e; cases e
    | some v =>
      rw [hv] at e
      exact (ai.top hG hv (jk g) (fN g) harg).mono fun e' w'' ⟨u, e1, hb, F', μ', hu⟩ => ⟨by rw [e1, (ae9 e hu).1], hb⟩
  have bnd : ∀ {r : ab} {s : List UInt8} {c : Nat}, jG (jN r) = some (s, c) → c ≤ 1000 ∧ s.length ≤ 1000000 := fun {r s c} e => by
    cases hv : jN r with
    | none => rw [hv] at e; cases e
    | some v =>
      rw [hv] at e
      unfold jG at e
      split at e
      · split at e
        · rename_i hh
          injection e with e
          injection e with e1 e2
          subst e1 e2
          exact ⟨hh.2.1, by rw [jJ]; exact hh.2.2⟩
        · cases e
      · cases e
  have sB : ∀ j, (sJ line m t o j).length ≤ 1000000 := fun j => by
    unfold sJ
    cases e : jG (jN (line.f (.nd m .lf (.nd (t.at (o + j)) .lf .lf)) .empty)) with
    | none => exact Nat.zero_le _
    | some p => exact (bnd (s := p.1) (c := p.2) e).2
  by_cases hn : 2000 < n
  · rw [vH hsl him hen hn] at ht
    injection ht with ht
    injection ht with h1 h2
    subst h1 h2
    refine ⟨by decide, ef w p0 p1 p2 n0 n1 n2 c0 c1 c2 q n cap (fun _ => ⟨0, 0, 0, 0, 0, 0, 0⟩) ov fv uv (fun _ => []) (fun _ => 0) false [] 0 [] [] [] 4 (fun h => absurd h (by omega)) (fun _ => Nat.zero_le _) (Nat.zero_le _) (Nat.zero_le _) (Nat.zero_le _) (fun h => absurd h (by omega)) (fun h => absurd h (by omega)) (fun h => absurd h (by omega)) (fun h => absurd h (by omega)) ⟨fun _ => ⟨rfl, rfl⟩, fun h => absurd h (by omega)⟩⟩
  · cases hlin : iM line m t o n 0 [] with
    | none => rw [fS, hsl] at ht; dsimp only at ht; rw [if_pos him, hen] at ht; dsimp only at ht; rw [if_neg hn, hlin] at ht; cases ht
    | some p =>
    obtain ⟨acc, ce⟩ := p
    have hat : ∀ j, (∀ i, i < j → ((cJ line m t o i : Nat) : Int) = 0) → j < n → (∀ j, j < n → (∀ i, i < j → ((cJ line m t o i : Nat) : Int) = 0) → fX line m t o j) → fX line m t o j := fun j h1 h2 h3 => h3 j h2 h1
    have mkat : (∀ j, j < n → (∀ i, i < j → ((cJ line m t o i : Nat) : Int) = 0) → fX line m t o j) → MkAt w q n (fun j => zJ (t.at (o + j))) (fun j => ((cJ line m t o j : Nat) : Int)) := fun h3 _ => by
      rcases hq with h | ⟨b, off, e, _, h⟩
      · exact .inl h
      · exact .inr ⟨b, off, e, fun j hj hz => (h j hj (h3 j hj hz).1).1⟩
    have C5 : (∀ j, j < n → (∀ i, i < j → ((cJ line m t o i : Nat) : Int) = 0) → fX line m t o j) → n ≤ 2000 → ∀ j, j < n → (∀ i, i < j → ((cJ line m t o i : Nat) : Int) = 0) → ∀ w', Grow w w' → Calls Tryz.prog 15 #[.agg #[.slice p0 n0 c0, .slice p1 n1 c1, .slice p2 n2 c2], (zJ (t.at (o + j))).agg] w' (fM (sY (sJ line m t o j) ((cJ line m t o j : Nat) : Int)) w') := fun h3 _ j hj hz w' g => by
      have hgd := h3 j hj hz
      rcases hq with h | ⟨b, off, e, _, h⟩
      · omega
      · exact callsi k5 hgd.2 g (a81 (later g hm) (later g (h j hj hgd.1).2))
    rcases nU line m t o n n 0 acc ce (Nat.zero_add n) hlin (fun j hj => absurd hj (Nat.not_lt_zero j)) with ⟨rfl, hacc, hall⟩ | ⟨k, hk, hbef, hgk, hck, hce, hacc⟩
    · have good : ∀ j, j < n → (∀ i, i < j → ((cJ line m t o i : Nat) : Int) = 0) → fX line m t o j := fun j hj _ => (hall j hj).1
      rw [a3n hsl him hen hn hlin] at ht
      have hz : ∀ j, j < n → ((cJ line m t o j : Nat) : Int) = 0 := fun j hj => by rw [(hall j hj).2]; rfl
      cases h33 : bOf (jN (right.f (.nd x .lf .lf) .empty)) with
      | none => rw [fR, h33] at ht; cases ht
      | some r =>
      have C33 : n ≤ 2000 → (∀ i, i < n → ((cJ line m t o i : Nat) : Int) = 0) → ∀ w', Grow w w' → Calls Tryz.prog 18 #[.agg #[.int .u8 ov, .int .i64 fv, .int .i64 uv]] w' (fM (.bool r) w') := fun _ _ w' g => by
        cases hv : jN (right.f (.nd x .lf .lf) .empty) with
        | none => rw [hv] at h33; cases h33
        | some v =>
          rw [hv] at h33
          exact (ai.top k33 hv (jk g) (fN g) (tZ (later g hx))).mono fun e' w'' ⟨u, e1, hb, F', μ', hu⟩ => ⟨by rw [e1, b_val h33 hu], hb⟩
      cases r with
      | false =>
        rw [a3j h33] at ht
        injection ht with ht
        injection ht with h1 h2
        subst h1 h2
        exact ⟨by decide, ef w p0 p1 p2 n0 n1 n2 c0 c1 c2 q n cap (fun j => zJ (t.at (o + j))) ov fv uv (sJ line m t o) (fun j => ((cJ line m t o j : Nat) : Int)) false [] 0 [] [] [] 8 (mkat good) sB (Nat.zero_le _) (Nat.zero_le _) (Nat.zero_le _) (C5 good) C33 (fun _ _ h => absurd h (by decide)) (fun _ _ h => absurd h (by decide))
          ⟨fun h => absurd h hn, fun _ => ⟨fun k hk _ h => absurd (hz k hk) h, fun _ => ⟨fun _ => ⟨rfl, rfl⟩, fun h => absurd h (by decide)⟩⟩⟩⟩
      | true =>
        cases h20 : jG (jN (outc.f (.nd xa .lf .lf) .empty)) with
        | none => rw [fR, h33] at ht; dsimp only at ht; rw [h20] at ht; cases ht
        | some p =>
        obtain ⟨word, cw⟩ := p
        have b20 := bnd h20
        have C20 : n ≤ 2000 → (∀ i, i < n → ((cJ line m t o i : Nat) : Int) = 0) → true = true → ∀ w', Grow w w' → Calls Tryz.prog 19 #[.int .u8 ov] w' (fM (sY word (cw : Int)) w') := fun _ _ _ w' g => callsi k20 h20 g (tZ (later g ha))
        by_cases hcw : cw = 0
        · subst hcw
          cases h1 : sOf (jN (whole.f (.nd xb .lf .lf) .empty)) with
          | none => rw [fR, h33] at ht; dsimp only at ht; rw [h20] at ht; dsimp only at ht; rw [if_pos rfl, h1] at ht; cases ht
          | some fl =>
          cases h2 : sOf (jN (whole.f (.nd xc .lf .lf) .empty)) with
          | none => rw [fR, h33] at ht; dsimp only at ht; rw [h20] at ht; dsimp only at ht; rw [if_pos rfl, h1] at ht; dsimp only at ht; rw [h2] at ht; cases ht
          | some ul =>
          rw [a3k h33 h20 h1 h2] at ht
          injection ht with ht
          injection ht with e1 e2
          subst e1 e2
          have c19 : ∀ {v : AV} {i : Int} {s : List UInt8} {w' : World}, sOf (jN (whole.f (.nd v .lf .lf) .empty)) = some s → ae w F bz v (.int .i64 i) → Grow w w' → Calls Tryz.prog 20 #[.int .i64 i] w' (fM (iZ s) w') ∧ s.length ≤ 1000000 := fun {v i s w'} e hv g => by
            cases hvo : jN (whole.f (.nd v .lf .lf) .empty) with
            | none => rw [hvo] at e; cases e
            | some v' =>
              rw [hvo] at e
              refine ⟨(ai.top k19 hvo (jk g) (fN g) (tZ (later g hv))).mono fun e' w'' ⟨u, e1, hb, F', μ', hu⟩ => ⟨by rw [e1, (s_val e hu).1], hb⟩, ?_⟩
              unfold sOf at e
              split at e
              · split at e
                · injection e with e; subst e; rw [jJ]; assumption
                · cases e
              · cases e
          refine ⟨by decide, ef w p0 p1 p2 n0 n1 n2 c0 c1 c2 q n cap (fun j => zJ (t.at (o + j))) ov fv uv (sJ line m t o) (fun j => ((cJ line m t o j : Nat) : Int)) true word 0 fl ul (acc ++ uy word fl ul) 0 (mkat good) sB b20.2 (c19 h1 hb (RowKit.Below.refl _ _)).2 (c19 h2 hc (RowKit.Below.refl _ _)).2 (C5 good) C33 C20 (fun _ _ _ _ w' g => ⟨(c19 h1 hb g).1, (c19 h2 hc g).1⟩)
            ⟨fun h => absurd h hn, fun _ => ⟨fun k hk _ h => absurd (hz k hk) h, fun _ => ⟨fun h => absurd h (by decide), fun _ => ⟨fun h => absurd rfl h, fun _ => ⟨by rw [hacc], rfl⟩⟩⟩⟩⟩⟩
        · have e : fR right outc whole x xa xb xc acc = some ([], cw) := by
            rw [fR, h33]; dsimp only; rw [h20]; dsimp only; rw [if_neg hcw]
          rw [e] at ht
          injection ht with ht
          injection ht with e1 e2
          subst e1 e2
          exact ⟨b20.1, ef w p0 p1 p2 n0 n1 n2 c0 c1 c2 q n cap (fun j => zJ (t.at (o + j))) ov fv uv (sJ line m t o) (fun j => ((cJ line m t o j : Nat) : Int)) true word cw [] [] [] cw (mkat good) sB b20.2 (Nat.zero_le _) (Nat.zero_le _) (C5 good) C33 C20 (fun _ _ _ h => absurd h (by omega))
            ⟨fun h => absurd h hn, fun _ => ⟨fun k hk _ h => absurd (hz k hk) h, fun _ => ⟨fun h => absurd h (by decide), fun _ => ⟨fun _ => ⟨rfl, rfl⟩, fun h => absurd h (by omega)⟩⟩⟩⟩⟩
    · have good : ∀ j, j < n → (∀ i, i < j → ((cJ line m t o i : Nat) : Int) = 0) → fX line m t o j := fun j hj hz => by
        rcases Nat.lt_trichotomy j k with h | rfl | h
        · exact (hbef j h).1
        · exact hgk
        · have := hz k h; omega
      rw [zF hsl him hen hn hlin (by rw [hce]; exact hck)] at ht
      injection ht with ht
      injection ht with e1 e2
      subst e1 e2
      refine ⟨by rw [hce]; exact (bnd hgk.2).1, ef w p0 p1 p2 n0 n1 n2 c0 c1 c2 q n cap (fun j => zJ (t.at (o + j))) ov fv uv (sJ line m t o) (fun j => ((cJ line m t o j : Nat) : Int)) false [] 0 [] [] [] ce (mkat good) sB (Nat.zero_le _) (Nat.zero_le _) (Nat.zero_le _) (C5 good) (fun _ h => absurd (h k hk) (by omega)) (fun _ _ h => absurd h (by decide)) (fun _ _ h => absurd h (by decide))
        ⟨fun h => absurd h hn, fun _ => ⟨fun j hj hz h => ?_, fun h => absurd (h k hk) (by dsimp only; omega)⟩⟩⟩
      rcases Nat.lt_trichotomy j k with h' | rfl | h'
      · exact absurd (by dsimp only; rw [(hbef j h').2]; rfl) h
      · exact ⟨rfl, by rw [hce]⟩
      · have := hz k h'; dsimp only at this; omega
theorem a3m : ai ⟨Tryz.prog, vs⟩ 8 (a3l line right outc whole) := by
  intro l hp R h hR
  unfold a3l at h
  dsimp only at h
  split at h
  · rename_i m _ a _ x _
    split at h
    · split at h
      · rename_i T z ht
        subst h
        refine ⟨⟨_, Tryz.func8, by kernel_rfl, by kernel_rfl⟩, _, _, rfl, fun w μ F args n hH ha => ?_⟩
        have hμ : μ = bz := funext fun b => by
          cases hb : μ b with
          | none => rfl
          | some mm => exact absurd (hH.et b mm hb).1 (Nat.not_lt_zero _)
        subst hμ
        obtain ⟨vm, va, vx, rfl, hm, hva, hx⟩ := args3 ha
        obtain ⟨hz, hc⟩ := a3o k5 k33 k20 k19 ht hm hva hx hH.jk hH.fN
        refine callsIn_wide.2 (hc.mono fun e w' ⟨e1, g⟩ => ⟨_, e1, bz, F, jz (sN T) (a2S ?_), ?_, .grow g⟩)
        · unfold R63; omega
        · exact hH.grow g.size g.block (fun _ h => h) (fun _ h => .inl h) fun B hB => Nat.lt_of_lt_of_le (hH.fN B hB) g.size
      · exact absurd h.symm hR
    · exact absurd h.symm hR
  · exact absurd h.symm hR
end
def mB (r : Nat) : Bool := !(Nat.beq r 45 || (Nat.ble 48 r && Nat.ble r 57))
set_option maxRecDepth 100000 in
theorem num1 (r : Nat) (W : World) : Calls Tryz.prog 44 #[.int .i32 r] W fun e w' => e = .returned (.bool (mB r)) ∧ ∃ q, w' = W.drewN q := by
  by_cases h1 : r = 45
  · subst h1
    go_enter Tryz.func44, Tryz.ntmps44
    go_wp2_with fail
    go_ret
    exact ⟨rfl, 0, rfl⟩
  · have t1 : ((r : Int) != 45) = true := by simp; omega
    by_cases h2 : r < 48
    · have t2 : decide ((r : Int) < 48) = true := by simp; omega
      have e : mB r = true := by
        unfold mB
        rw [show Nat.beq r 45 = false from by rw [← Bool.not_eq_true]; intro h; exact h1 (Nat.eq_of_beq_eq_true h), show Nat.ble 48 r = false from by rw [← Bool.not_eq_true]; intro h; have := Nat.le_of_ble_eq_true h; omega]
        rfl
      rw [e]
      go_enter Tryz.func44, Tryz.ntmps44
      go_wp2_with fail
      go_ret
      exact ⟨rfl, 0, rfl⟩
    · have t2 : decide ((r : Int) < 48) = false := by simp; omega
      have e : mB r = decide ((57 : Int) < (r : Int)) := by
        unfold mB
        rw [show Nat.beq r 45 = false from by rw [← Bool.not_eq_true]; intro h; exact h1 (Nat.eq_of_beq_eq_true h), show Nat.ble 48 r = true from Nat.ble_eq_true_of_le (by omega)]
        by_cases h3 : r ≤ 57
        · rw [Nat.ble_eq_true_of_le h3, decide_eq_false (by omega)]; rfl
        · rw [show Nat.ble r 57 = false from by rw [← Bool.not_eq_true]; intro h; exact h3 (Nat.le_of_ble_eq_true h), decide_eq_true (by omega)]; rfl
      rw [e]
      go_enter Tryz.func44, Tryz.ntmps44
      go_wp2_with fail
      go_ret
      exact ⟨rfl, 0, rfl⟩
theorem nY (c : UInt8) : mB c.toNat = !gA c := rfl
theorem nZ {r : Nat} (h : 128 ≤ r) : mB r = true := by
  unfold mB
  rw [show Nat.beq r 45 = false from by rw [← Bool.not_eq_true]; intro h2; have := Nat.eq_of_beq_eq_true h2; omega, show Nat.ble r 57 = false from by rw [← Bool.not_eq_true]; intro h2; have := Nat.le_of_ble_eq_true h2; omega]
  cases Nat.ble 48 r <;> rfl
theorem kS (c : UInt8) (l : List UInt8) : dY (c :: l) = if gA c then dY l + 1 else 0 := by
  show Bool.rec (motive := fun _ => Nat) 0 (Nat.succ (dY l)) (gA c) = _
  cases gA c <;> rfl
theorem kg : ∀ l : List UInt8, dY l ≤ l.length
  | [] => Nat.le_refl _
  | c :: l => by
    rw [kS]
    have := kg l
    split <;> simp only [List.length_cons] <;> omega
theorem uD {c : UInt8} (h : 128 ≤ c.toNat) : gA c = false := by
  have := nZ h
  rw [nY] at this
  cases hb : gA c with
  | false => rfl
  | true => rw [hb] at this; cases this
theorem idx_eq (s : ByteArray) : ∀ f pos, s.size ≤ pos + f → Lib.idxFuncFrom mB true s f pos = if dY (s.data.toList.drop pos) = (s.data.toList.drop pos).length then -1 else ((pos + dY (s.data.toList.drop pos) : Nat) : Int)
  | 0, pos, h => by
    have : s.data.toList.drop pos = [] := List.drop_eq_nil_of_le (by show s.data.toList.length ≤ pos; have : s.data.toList.length = s.size := rfl; omega)
    rw [this]; rfl
  | f + 1, pos, h => by
    have hl : s.data.toList.length = s.size := rfl
    by_cases hp : pos < s.size
    · have hd : s.data.toList.drop pos = s[pos]'hp :: s.data.toList.drop (pos + 1) := List.drop_eq_getElem_cons (by omega)
      have hle := kg (s.data.toList.drop (pos + 1))
      rw [hd, kS, Lib.idxFuncFrom, if_pos hp]
      by_cases ha : (s[pos]'hp).toNat < 128
      · rw [decode_ascii s pos hp ha]
        dsimp only
        rw [nY]
        cases hb : gA (s[pos]'hp) with
        | false =>
          simp only [Bool.not_false, if_true, Bool.false_eq_true, if_false, List.length_cons]
          rw [if_neg (by omega)]
          rfl
        | true =>
          rw [idx_eq s f (pos + 1) (by omega)]
          simp only [Bool.not_true, Bool.false_eq_true, if_false, if_true, List.length_cons, Nat.add_right_cancel_iff]
          split
          · rfl
          · congr 1; omega
      · have hh := decode_high s pos hp (by omega)
        rw [if_pos (nZ hh.1), uD (by omega)]
        simp only [Bool.false_eq_true, if_false, List.length_cons]
        rw [if_neg (by omega)]
        rfl
    · rw [Lib.idxFuncFrom, if_neg hp, List.drop_eq_nil_of_le (by omega)]
      rfl
theorem a0X (l : List UInt8) : ixN l = if dY l = l.length then -1 else (dY l : Int) := by
  unfold ixN
  cases hb : Nat.beq (dY l) l.length with
  | true => rw [if_pos (Nat.eq_of_beq_eq_true hb)]
  | false => rw [if_neg fun h => by rw [h, Nat.beq_refl] at hb; cases hb]
theorem a4x (s : ByteArray) : Lib.idxFunc mB true s = ixN s.data.toList := by
  unfold Lib.idxFunc
  rw [idx_eq s s.size 0 (by omega), a0X, List.drop_zero]
  split
  · rfl
  · rw [Nat.zero_add]
theorem a4B {vs : Vs} : ai ⟨Tryz.prog, vs⟩ 43 (ixfF 44) := by
  refine ai.known ⟨_, Tryz.func43, by kernel_rfl, by kernel_rfl⟩ fun l hp R h hR => ?_
  obtain ⟨a, _, r, rfl, h1⟩ := b9 hR h
  obtain ⟨b, _, r, rfl, h2⟩ := b9 hR h1
  obtain ⟨rfl, h3⟩ := dP hR h2
  obtain ⟨s, n, rfl, h4⟩ := aM hR h3
  obtain ⟨g, tt, c, x, y, rfl, h5⟩ := fE hR h4
  obtain ⟨hg, h6⟩ := ah hR h5
  obtain ⟨hc, h7⟩ := ah hR h6
  obtain ⟨hx, h8⟩ := ah hR h7
  obtain ⟨hy, h9⟩ := ah hR h8
  obtain ⟨hn, h10⟩ := ah hR h9
  rw [an] at hg hc hx hy
  rw [aK] at hn
  subst hg hc hx hy
  refine ⟨_, h10.symm, fun w F μ args hgl ha => ?_⟩
  obtain ⟨vs', vf, rfl, hs, hf⟩ := nA ha
  cases hs with
  | str =>
  rename_i b1
  cases hf with
  | fn us e1 e2 e3 e4 e5 e6 =>
  rename_i fs cs
  obtain rfl : fs = #[] := Array.eq_empty_of_size_eq_zero e1
  obtain rfl : cs = #[] := Array.eq_empty_of_size_eq_zero e2
  rw [show tR b1.size (aI b1.data.toList) = b1.data.toList from gU b1.data.toList]
  refine (Tryz.strings_IndexFunc_runes 44 #[] (fun args w => dF ⟨_, Tryz.func44, by kernel_rfl, by kernel_rfl⟩ args w) mB b1 w (fun W r _ _ => num1 r W)).mono fun e w' ⟨h1, h2⟩ => ⟨_, h1, h2, ?_⟩
  rw [a4x]
  refine a2S ?_
  have hl : b1.data.toList.length ≤ 4294967280 := hn
  have := kg b1.data.toList
  unfold R63
  rw [a0X]
  split <;> omega
end Go.Proofs.YtdlohaedegmiaaaGreatDoor.Tz
