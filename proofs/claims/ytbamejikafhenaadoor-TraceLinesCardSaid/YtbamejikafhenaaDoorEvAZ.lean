import Derived.Test.YtbamejikafhenaaDoorEvAA
import Derived.Test.YtbamejikafhenaaDoorEvAL
import Derived.Test.YtbamejikafhenaaDoorEvAM
import Derived.Test.YtbamejikafhenaaDoorEvAN
import Derived.Test.YtbamejikafhenaaDoorEvAX
import Derived.Test.YtbamejikafhenaaDoorEvAY
import Derived.Laws.Concat
import Derived.KernelRfl
namespace Go.Proofs.YtbamejikafhenaaDoor.Tz
open Go.RowKit
structure MkV where
  a : Int
  b : Int
  c : Int
  d : Int
  e : Int
  f : Int
  g : Int
abbrev MkV.agg (x : MkV) : Value := .agg #[.int .i64 x.a, .int .i64 x.b, .int .i64 x.c, .int .i64 x.d, .int .u8 x.e, .int .i64 x.f, .int .u8 x.g]
def MkV.cells (x : MkV) : List Value := [.int .i64 x.a, .int .i64 x.b, .int .i64 x.c, .int .i64 x.d, .int .u8 x.e, .int .i64 x.f, .int .u8 x.g]
def yH (s : Nat → List UInt8) : Nat → List UInt8
  | 0 => []
  | n + 1 => yH s n ++ (s n ++ [10])
abbrev a0L := Go.Proofs.YtbamejikafhenaaDoor.Ev.a0L
abbrev qP (l : List UInt8) : Value := .string ⟨l.toArray⟩
theorem aed (a b : List UInt8) : (⟨a.toArray⟩ ++ ⟨b.toArray⟩ : ByteArray) = ⟨(a ++ b).toArray⟩ := by
  apply ByteArray.ext
  simp [ByteArray.data_append]
theorem n8 {P : Program} (a b : List UInt8) (h : a.length + b.length ≤ 9223372036854775807) (w : World) : (Op.stringOp .add ⟨a.toArray⟩ ⟨b.toArray⟩).run P w = .ok (qP (a ++ b)) w := by
  rw [run_string_add_sum (P := P) (w := w) ⟨a.toArray⟩ ⟨b.toArray⟩ (by simpa [ByteArray.size] using h), aed]
abbrev a3q (l : List UInt8) (z : Int) : Value := .tuple #[qP l, .int .i64 z]
def nQ (v : Value) (w : World) (e : Ending) (w' : World) : Prop := e = .returned v ∧ Grow w w'
theorem yZ (l : List UInt8) : Lib.strCells ⟨l.toArray⟩ = Lib.byteCells l := by
  simp [Lib.strCells, Lib.byteCells]
theorem a3U {B b : Nat} {p : Value} {bs : List Value} {w w' : World} (h : Lib.BuilderAtF 80 5 B b p bs w) (g : Grow w w') : Lib.BuilderAtF 80 5 B b p bs w' := by
  obtain ⟨hB, v, hb, ⟨h1, h2⟩, hne⟩ := h
  refine ⟨hB, v, (g.block b (Array.getElem?_eq_some_iff.1 hb).1).trans hb, ⟨h1, ?_⟩, hne⟩
  rcases h2 with hn | ⟨g2, cap, cur, fz, e, hb2, hg2, r⟩
  · exact .inl hn
  · exact .inr ⟨g2, cap, cur, fz, e, hb2, (g.block g2 (Array.getElem?_eq_some_iff.1 hg2).1).trans hg2, r⟩
theorem wH {B b : Nat} {bs : List Value} {w w' : World} (h : Lib.IsBuilderF 80 5 B b bs w) (g : Grow w w') : Lib.IsBuilderF 80 5 B b bs w' := h.imp (fun h => a3U h g) (fun h => a3U h g)
theorem xv (B b : Nat) (l m : List UInt8) (w : World) (h : Lib.IsBuilderF 80 5 B b (Lib.byteCells l) w) (hlen : l.length + m.length ≤ 140737488355328) (hB : B ≤ w.heap.size) :
    Calls Tryd.prog 32 #[.pointer (some ⟨b, 0, none⟩), qP m] w fun e w' => e = .returned (.tuple #[.int .i64 m.length, .nilIface]) ∧ Lib.IsBuilderF 80 5 B b (Lib.byteCells (l ++ m)) w' ∧ Below B w w' := by
  refine (Tryd.Builder_WriteString_k B b (Lib.byteCells l) ⟨m.toArray⟩ w h (by rw [Lib.byteCells_length]; simpa [ByteArray.size] using hlen) hB).mono fun e w' ⟨h1, h2, h3, _⟩ => ⟨?_, .inr ?_, h3⟩
  · rw [h1]; simp [ByteArray.size]
  · rw [yZ] at h2
    have e : Lib.byteCells (l ++ m) = Lib.byteCells l ++ Lib.byteCells m := by simp [Lib.byteCells]
    rw [e]; exact h2
def MkAt (w : World) (q : Option Addr) (n : Nat) (M : Nat → MkV) (c : Nat → Int) : Prop := n ≤ 2000 → n = 0 ∨ ∃ b off, q = some ⟨b, off, none⟩ ∧ ∀ j, j < n → (∀ i, i < j → c i = 0) → Has w b (off + j * 7) (M j).cells
theorem Has.mk7 {w : World} {b off : Nat} {x : MkV} (h : Has w b off x.cells) : w.cell? ⟨b, off, none⟩ = some (.int .i64 x.a) ∧ w.cell? ⟨b, off + 1, none⟩ = some (.int .i64 x.b) ∧ w.cell? ⟨b, off + 2, none⟩ = some (.int .i64 x.c) ∧ w.cell? ⟨b, off + 3, none⟩ = some (.int .i64 x.d) ∧ w.cell? ⟨b, off + 4, none⟩ = some (.int .u8 x.e) ∧ w.cell? ⟨b, off + 5, none⟩ = some (.int .i64 x.f) ∧ w.cell? ⟨b, off + 6, none⟩ = some (.int .u8 x.g) :=
  ⟨h 0 _ rfl, h 1 _ rfl, h 2 _ rfl, h 3 _ rfl, h 4 _ rfl, h 5 _ rfl, h 6 _ rfl⟩
def Res9 (n : Nat) (s : Nat → List UInt8) (c : Nat → Int) (r : Bool) (word : List UInt8) (cw : Int) (f u T : List UInt8) (z : Int) : Prop :=
  (2000 < n → T = [] ∧ z = 4) ∧ (n ≤ 2000 → (∀ k, k < n → (∀ j, j < k → c j = 0) → c k ≠ 0 → T = [] ∧ z = c k) ∧ ((∀ j, j < n → c j = 0) → (r = false → T = [] ∧ z = 8) ∧ (r = true → (cw ≠ 0 → T = [] ∧ z = cw) ∧ (cw = 0 → T = yH s n ++ a0L word f u ∧ z = 0))))
theorem vT {s : Nat → List UInt8} (h : ∀ j, (s j).length ≤ 1000000) : ∀ n, (yH s n).length ≤ n * 1000001
  | 0 => Nat.zero_le _
  | n + 1 => by
    have := vT h n; have := h n
    simp only [yH, List.length_append, List.length_cons, List.length_nil]; omega
structure a2m (w : World) (p0 p1 p2 : Option Addr) (n0 n1 n2 k0 k1 k2 : Nat) (o xf xu : Int) (wr : World) : Prop where
  g : Grow w wr
  s : w.heap.size + 2 ≤ wr.heap.size
  m0 : wr.cell? ⟨w.heap.size, 0, none⟩ = some (.slice p0 n0 k0)
  m1 : wr.cell? ⟨w.heap.size, 1, none⟩ = some (.slice p1 n1 k1)
  m2 : wr.cell? ⟨w.heap.size, 2, none⟩ = some (.slice p2 n2 k2)
  x0 : wr.cell? ⟨w.heap.size + 1, 0, none⟩ = some (.int .u8 o)
  x1 : wr.cell? ⟨w.heap.size + 1, 1, none⟩ = some (.int .i64 xf)
  x2 : wr.cell? ⟨w.heap.size + 1, 2, none⟩ = some (.int .i64 xu)
theorem a2m.mono {w : World} {p0 p1 p2 : Option Addr} {n0 n1 n2 k0 k1 k2 : Nat} {o xf xu : Int} {wr wr' : World} (h : a2m w p0 p1 p2 n0 n1 n2 k0 k1 k2 o xf xu wr) (b : Below (w.heap.size + 2) wr wr') : a2m w p0 p1 p2 n0 n1 n2 k0 k1 k2 o xf xu wr' := by
  have k : ∀ (b' i : Nat) (v : Value), b' < w.heap.size + 2 → wr.cell? ⟨b', i, none⟩ = some v → wr'.cell? ⟨b', i, none⟩ = some v := fun b' i v hb hv => by
    rw [b.cell hb]; exact hv
  exact ⟨h.g.trans (b.mono (by omega)), Nat.le_trans h.s b.size, k _ _ _ (by omega) h.m0, k _ _ _ (by omega) h.m1, k _ _ _ (by omega) h.m2, k _ _ _ (by omega) h.x0, k _ _ _ (by omega) h.x1, k _ _ _ (by omega) h.x2⟩
theorem a2m.grow {w : World} {p0 p1 p2 : Option Addr} {n0 n1 n2 k0 k1 k2 : Nat} {o xf xu : Int} {wr wr' : World} (h : a2m w p0 p1 p2 n0 n1 n2 k0 k1 k2 o xf xu wr) (b : Grow wr wr') : a2m w p0 p1 p2 n0 n1 n2 k0 k1 k2 o xf xu wr' := h.mono (b.mono h.s)
theorem three {w : World} {a b c : Value} {t : TypeId} : (w.alloc (.cells #[a, b, c] t)).cell? ⟨w.heap.size, 0, none⟩ = some a ∧ (w.alloc (.cells #[a, b, c] t)).cell? ⟨w.heap.size, 1, none⟩ = some b ∧ (w.alloc (.cells #[a, b, c] t)).cell? ⟨w.heap.size, 2, none⟩ = some c := by
  have e : (w.alloc (.cells #[a, b, c] t)).heap[w.heap.size]? = some (.cells #[a, b, c] t) := Array.getElem?_push_size
  refine ⟨?_, ?_, ?_⟩ <;> (rw [Lib.cell_of_heap e]; rfl)
theorem a3l (w : World) (o : Obj) : (w.alloc o).heap.size = w.heap.size + 1 := Array.size_push _
theorem a57 (w : World) (p0 p1 p2 : Option Addr) (n0 n1 n2 k0 k1 k2 : Nat) (o xf xu : Int) (ob : Obj) : a2m w p0 p1 p2 n0 n1 n2 k0 k1 k2 o xf xu (((w.alloc (.cells #[.slice p0 n0 k0, .slice p1 n1 k1, .slice p2 n2 k2] 26)).alloc (.cells #[.int .u8 o, .int .i64 xf, .int .i64 xu] 31)).alloc ob) := by
  obtain ⟨a0, a1, a2⟩ := @three w (.slice p0 n0 k0) (.slice p1 n1 k1) (.slice p2 n2 k2) 26
  generalize hW1 : w.alloc (.cells #[.slice p0 n0 k0, .slice p1 n1 k1, .slice p2 n2 k2] 26) = W1 at a0 a1 a2
  have s1 : W1.heap.size = w.heap.size + 1 := by rw [← hW1, a3l]
  have g1 : Grow w W1 := by rw [← hW1]; exact (Below.refl _ _).tu _
  obtain ⟨b0, b1, b2⟩ := @three W1 (.int .u8 o) (.int .i64 xf) (.int .i64 xu) 31
  generalize hW2 : W1.alloc (.cells #[.int .u8 o, .int .i64 xf, .int .i64 xu] 31) = W2 at b0 b1 b2
  have s2 : W2.heap.size = w.heap.size + 2 := by rw [← hW2, a3l, s1]
  have g2 : Grow W1 W2 := by rw [← hW2]; exact (Below.refl _ _).tu _
  have g3 : Grow W2 (W2.alloc ob) := (Below.refl _ _).tu _
  rw [s1] at b0 b1 b2
  exact ⟨g1.then (g2.then g3), by rw [a3l, s2]; omega, (g2.then g3).dC a0, (g2.then g3).dC a1, (g2.then g3).dC a2, g3.dC b0, g3.dC b1, g3.dC b2⟩
set_option maxRecDepth 100000 in
set_option maxHeartbeats 4000000 in
theorem ku (w : World) (p0 p1 p2 : Option Addr) (n0 n1 n2 k0 k1 k2 : Nat) (q : Option Addr) (n cap : Nat) (M : Nat → MkV) (o xf xu : Int) (s : Nat → List UInt8) (c : Nat → Int) (r : Bool) (word : List UInt8) (cw : Int) (f u T : List UInt8) (z : Int)
    (hM : MkAt w q n M c) (hs : ∀ j, (s j).length ≤ 1000000) (hw : word.length ≤ 1000000) (hf : f.length ≤ 1000000) (hu : u.length ≤ 1000000)
    (C5 : n ≤ 2000 → ∀ j, j < n → (∀ i, i < j → c i = 0) → ∀ w', Grow w w' → Calls Tryd.prog 5 #[.agg #[.slice p0 n0 k0, .slice p1 n1 k1, .slice p2 n2 k2], (M j).agg] w' (nQ (a3q (s j) (c j)) w'))
    (C33 : n ≤ 2000 → (∀ i, i < n → c i = 0) → ∀ w', Grow w w' → Calls Tryd.prog 33 #[.agg #[.int .u8 o, .int .i64 xf, .int .i64 xu]] w' (nQ (.bool r) w'))
    (C20 : n ≤ 2000 → (∀ i, i < n → c i = 0) → r = true → ∀ w', Grow w w' → Calls Tryd.prog 20 #[.int .u8 o] w' (nQ (a3q word cw) w'))
    (C19 : n ≤ 2000 → (∀ i, i < n → c i = 0) → r = true → cw = 0 → ∀ w', Grow w w' → Calls Tryd.prog 19 #[.int .i64 xf] w' (nQ (qP f) w') ∧ Calls Tryd.prog 19 #[.int .i64 xu] w' (nQ (qP u) w'))
    (hR : Res9 n s c r word cw f u T z) :
    Calls Tryd.prog 9 #[.agg #[.slice p0 n0 k0, .slice p1 n1 k1, .slice p2 n2 k2], .slice q n cap, .agg #[.int .u8 o, .int .i64 xf, .int .i64 xu]] w (nQ (a3q T z) w) := by
  have HM := Lib.hid hM
  have HR := Lib.hid hR
  have K5 := Lib.hid C5
  have K33 := Lib.hid C33
  have K20 := Lib.hid C20
  have K19 := Lib.hid C19
  have HS := Lib.hid hs
  have HL := Lib.hid (And.intro hw (And.intro hf hu))
  clear hM hR C5 C33 C20 C19 hs hw hf hu
  by_cases hn : n ≤ 2000
  case neg =>
    obtain ⟨e1, e2⟩ := HR.out.1 (by omega)
    subst e1 e2
    have t1 : decide ((2000 : Int) < (n : Int)) = true := by simp; omega
    go_enter Tryd.func9, Tryd.ntmps9
    go_wp2_with fail
    go_ret2
    exact ⟨rfl, ((Below.refl _ _).tu _).tu _⟩
  have t1 : decide ((2000 : Int) < (n : Int)) = false := by simp; omega
  have nb : n ≤ 9223372036854775807 := by omega
  go_enter Tryd.func9, Tryd.ntmps9
  go_wp2_with fail
  go_loopw [20] (fun i wr => ∃ k : Nat, k ≤ n ∧ i = .int .i64 k ∧ (∀ j, j < k → c j = 0) ∧ a2m w p0 p1 p2 n0 n1 n2 k0 k1 k2 o xf xu wr ∧ Lib.IsBuilderF 80 5 (w.heap.size + 2) (w.heap.size + 2) (Lib.byteCells (yH s k)) wr) (fun i _ => n - (intOf i).toNat)
  case atStart =>
    have hB := Lib.fresh_isBuilder 80 5 ((w.alloc (.cells #[.slice p0 n0 k0, .slice p1 n1 k1, .slice p2 n2 k2] 26)).alloc (.cells #[.int .u8 o, .int .i64 xf, .int .i64 xu] 31))
    rw [a3l, a3l] at hB
    refine ⟨0, Nat.zero_le _, rfl, fun j hj => absurd hj (Nat.not_lt_zero _), a57 _ _ _ _ _ _ _ _ _ _ _ _ _ _, ?_⟩
    exact .of hB
  case round =>
    obtain ⟨k, hk, rfl, hz, hI, hB⟩ := hrel
    by_cases hlt : k < n
    · obtain ⟨b, off, rfl, hcs⟩ : ∃ b off, q = some ⟨b, off, none⟩ ∧ ∀ j, j < n → (∀ i, i < j → c i = 0) → Has w b (off + j * 7) (M j).cells := by
        rcases HM.out hn with e | e
        · omega
        · exact e
      obtain ⟨a0, a1, a2, a3, a4, a5, a6⟩ := ((hcs k hlt hz).grow hI.g).mk7
      have hbz : b < wr.heap.size := a7s a0
      have c0 := hI.m0
      have c1 := hI.m1
      have c2 := hI.m2
      have GA := Lib.hid (show Grow wr (wr.alloc (.cells #[.int .i64 (M k).a, .int .i64 (M k).b, .int .i64 (M k).c, .int .i64 (M k).d, .int .u8 (M k).e, .int .i64 (M k).f, .int .u8 (M k).g] 28)) from (Below.refl _ _).tu _)
      have HI := Lib.hid hI
      have HB := Lib.hid hB
      have HZ := Lib.hid hz
      have hzs : w.heap.size < wr.heap.size := by have := hI.s; omega
      clear hI hB hz hcs
      by_cases hck : c k = 0
      · have t2 : (c k != 0) = false := by simp [hck]
        have hcat : ∀ w', (Op.stringOp .add ⟨(s k).toArray⟩ ⟨#[10]⟩).run Tryd.prog w' = .ok (qP (s k ++ [10])) w' := fun w' => n8 (P := Tryd.prog) (s k) [10] (by have := HS.out k; simp only [List.length_cons, List.length_nil]; omega) w'
        have HCK := Lib.hid hck
        clear hck
        go_wp2_with (go_at_call 5; refine (K5.out hn k hlt HZ.out _ (HI.out.g.then GA.out)).mono ?_; rintro e w5 ⟨rfl, h5⟩)
        refine (xv (w.heap.size + 2) (w.heap.size + 2) (yH s k) (s k ++ [10]) w5 (wH HB.out (GA.out.then h5)) ?_ ?_).mono ?_
        · have := vT HS.out k; have := HS.out k; simp only [List.length_append, List.length_cons, List.length_nil]; omega
        · have := HI.out.s; have := GA.out.size; have := h5.size; omega
        rintro e w6 ⟨rfl, hb6, hbl⟩
        have HZ' : ∀ j, j < k + 1 → c j = 0 := fun j hj => by
          rcases Nat.lt_succ_iff_lt_or_eq.1 hj with h | rfl
          · exact HZ.out j h
          · exact HCK.out
        have HI' := (HI.out.grow (GA.out.then h5)).mono hbl
        go_wp2_with fail
        exact ⟨⟨k + 1, by omega, by go_num, HZ', HI', hb6⟩, by simp [intOf]; omega⟩
      · have t2 : (c k != 0) = true := by simp [hck]
        go_wp2_with (go_at_call 5; refine (K5.out hn k hlt HZ.out _ (HI.out.g.then GA.out)).mono ?_; rintro e w5 ⟨rfl, h5⟩)
        go_ret2
        obtain ⟨e1, e2⟩ := (HR.out.2 hn).1 k hlt HZ.out hck
        subst e1 e2
        exact ⟨rfl, HI.out.g.then (GA.out.then h5)⟩
    · obtain rfl : k = n := by omega
      have c0 := hI.x0
      have c1 := hI.x1
      have c2 := hI.x2
      have HI := Lib.hid hI
      have HB := Lib.hid hB
      have HZ := Lib.hid hz
      clear hI hB hz
      have HU := Lib.hid ((HR.out.2 hn).2 HZ.out)
      cases r with
      | false =>
        go_wp2_with (go_at_call 33; refine (K33.out hn HZ.out _ HI.out.g).mono ?_; rintro e w5 ⟨rfl, h5⟩)
        go_ret2
        obtain ⟨e1, e2⟩ := HU.out.1 (by first | rfl | trivial)
        subst e1 e2
        exact ⟨rfl, HI.out.g.then h5⟩
      | true =>
        by_cases hcw : cw = 0
        · have t2 : (cw != 0) = false := by simp [hcw]
          obtain ⟨e1, e2⟩ := (HU.out.2 (by first | rfl | trivial)).2 hcw
          subst e1 e2
          have HCW := Lib.hid hcw
          clear hcw
          go_wp2_with (first
            | (go_at_call 33; refine (K33.out hn HZ.out _ HI.out.g).mono ?_; rintro e w5 ⟨rfl, h5⟩; have q0 := h5.dC c0; have q1 := h5.dC c1; have q2 := h5.dC c2; have H5 := Lib.hid h5; clear h5 c0 c1 c2)
            | (go_at_call 20; refine (K20.out hn HZ.out (by first | rfl | trivial) _ (HI.out.g.then H5.out)).mono ?_; rintro e w6 ⟨rfl, h6⟩; have r0 := h6.dC q0; have r1 := h6.dC q1; have r2 := h6.dC q2; have H6 := Lib.hid h6; clear h6 q0 q1 q2))
          obtain ⟨y0, hy0⟩ : ∃ y, y = [101, 110, 100, 101, 100, 32] ++ word := ⟨_, rfl⟩
          have l0 : y0.length = [101, 110, 100, 101, 100, 32].length + word.length := by rw [hy0]; exact List.length_append
          have x0 : ∀ w', (Op.stringOp .add ⟨#[101, 110, 100, 101, 100, 32]⟩ ⟨word.toArray⟩).run Tryd.prog w' = .ok (qP y0) w' := fun w' => by
            rw [hy0]
            exact n8 (P := Tryd.prog) [101, 110, 100, 101, 100, 32] word (by have := HL.out; simp only [List.length_cons, List.length_nil] at *; omega) w'
          obtain ⟨y1, hy1⟩ : ∃ y, y = y0 ++ [44, 32, 102, 97, 105, 108, 105, 110, 103, 32] := ⟨_, rfl⟩
          have l1 : y1.length = y0.length + [44, 32, 102, 97, 105, 108, 105, 110, 103, 32].length := by rw [hy1]; exact List.length_append
          have x1 : ∀ w', (Op.stringOp .add ⟨y0.toArray⟩ ⟨#[44, 32, 102, 97, 105, 108, 105, 110, 103, 32]⟩).run Tryd.prog w' = .ok (qP y1) w' := fun w' => by
            rw [hy1]
            exact n8 (P := Tryd.prog) y0 [44, 32, 102, 97, 105, 108, 105, 110, 103, 32] (by have := HL.out; simp only [List.length_cons, List.length_nil] at *; omega) w'
          obtain ⟨y2, hy2⟩ : ∃ y, y = y1 ++ f := ⟨_, rfl⟩
          have l2 : y2.length = y1.length + f.length := by rw [hy2]; exact List.length_append
          have x2 : ∀ w', (Op.stringOp .add ⟨y1.toArray⟩ ⟨f.toArray⟩).run Tryd.prog w' = .ok (qP y2) w' := fun w' => by
            rw [hy2]
            exact n8 (P := Tryd.prog) y1 f (by have := HL.out; simp only [List.length_cons, List.length_nil] at *; omega) w'
          obtain ⟨y3, hy3⟩ : ∃ y, y = y2 ++ [44, 32, 117, 115, 101, 100, 32] := ⟨_, rfl⟩
          have l3 : y3.length = y2.length + [44, 32, 117, 115, 101, 100, 32].length := by rw [hy3]; exact List.length_append
          have x3 : ∀ w', (Op.stringOp .add ⟨y2.toArray⟩ ⟨#[44, 32, 117, 115, 101, 100, 32]⟩).run Tryd.prog w' = .ok (qP y3) w' := fun w' => by
            rw [hy3]
            exact n8 (P := Tryd.prog) y2 [44, 32, 117, 115, 101, 100, 32] (by have := HL.out; simp only [List.length_cons, List.length_nil] at *; omega) w'
          obtain ⟨y4, hy4⟩ : ∃ y, y = y3 ++ u := ⟨_, rfl⟩
          have l4 : y4.length = y3.length + u.length := by rw [hy4]; exact List.length_append
          have x4 : ∀ w', (Op.stringOp .add ⟨y3.toArray⟩ ⟨u.toArray⟩).run Tryd.prog w' = .ok (qP y4) w' := fun w' => by
            rw [hy4]
            exact n8 (P := Tryd.prog) y3 u (by have := HL.out; simp only [List.length_cons, List.length_nil] at *; omega) w'
          obtain ⟨y5, hy5⟩ : ∃ y, y = y4 ++ [10] := ⟨_, rfl⟩
          have l5 : y5.length = y4.length + [10].length := by rw [hy5]; exact List.length_append
          have x5 : ∀ w', (Op.stringOp .add ⟨y4.toArray⟩ ⟨#[10]⟩).run Tryd.prog w' = .ok (qP y5) w' := fun w' => by
            rw [hy5]
            exact n8 (P := Tryd.prog) y4 [10] (by have := HL.out; simp only [List.length_cons, List.length_nil] at *; omega) w'
          have HY := Lib.hid (show y5 = a0L word f u ∧ y5.length ≤ 4000000 by
            refine ⟨by rw [hy5, hy4, hy3, hy2, hy1, hy0]; rfl, ?_⟩
            have := HL.out; simp only [List.length_cons, List.length_nil] at *; omega)
          clear l0 l1 l2 l3 l4 l5 hy0 hy1 hy2 hy3 hy4 hy5
          have K1 : ∀ d : sM w6, d.w'.cell? ⟨w.heap.size + 1, 1, none⟩ = some (.int .i64 xf) := fun d => d.h.dC r1
          have K2 : ∀ d : sM w6, d.w'.cell? ⟨w.heap.size + 1, 2, none⟩ = some (.int .i64 xu) := fun d => d.h.dC r2
          have G6 := Lib.hid (HI.out.g.then (H5.out.then H6.out))
          refine pg 13 (by kernel_rfl) (by kernel_rfl) ?_
          simp only [Y9]
          repeat (go_big_quiet_step ((go_at_call 19; first | exact Calls.later (K19.out hn HZ.out (by first | rfl | trivial) HCW.out _ (G6.out.then (sM.h _))).1 | exact Calls.later (K19.out hn HZ.out (by first | rfl | trivial) HCW.out _ (G6.out.then (sM.h _))).2)))
          refine wpQuiet_nil ?_
          rintro _ ⟨d, rfl⟩
          have HD := Lib.hid ((H5.out.then H6.out).then d.h)
          have HB' := Lib.hid (wH HB.out HD.out)
          have HSZ := Lib.hid (show w.heap.size + 2 ≤ d.w'.heap.size by have := HI.out.s; have := HD.out.size; omega)
          have HI' := Lib.hid (HI.out.grow HD.out)
          clear K1 K2
          go_wp2_with (first
            | (go_at_call 32; refine (xv (w.heap.size + 2) (w.heap.size + 2) (yH s k) y5 _ HB'.out (by have := vT HS.out k; have := HY.out.2; omega) HSZ.out).mono ?_; rintro e w8 ⟨rfl, h8, g8⟩; have HB2 := Lib.hid h8; have G8 := Lib.hid g8; clear h8 g8)
            | (go_at_call 34; refine (Tryd.Builder_String_any_k (w.heap.size + 2) (w.heap.size + 2) (yH s k ++ y5) _ HB2.out (by have := HSZ.out; have := G8.out.size; omega)).mono ?_; rintro e w9 ⟨rfl, _, h9, _⟩))
          go_ret2
          refine ⟨?_, ((HI'.out.mono G8.out).mono h9).g⟩
          rw [← HY.out.1]
          rfl
        · have t2 : (cw != 0) = true := by simp [hcw]
          go_wp2_with (first
            | (go_at_call 33; refine (K33.out hn HZ.out _ HI.out.g).mono ?_; rintro e w5 ⟨rfl, h5⟩; have q0 := h5.dC c0; have q1 := h5.dC c1; have q2 := h5.dC c2; have H5 := Lib.hid h5; clear h5 c0 c1 c2)
            | (go_at_call 20; refine (K20.out hn HZ.out (by first | rfl | trivial) _ (HI.out.g.then H5.out)).mono ?_; rintro e w6 ⟨rfl, h6⟩))
          go_ret2
          obtain ⟨e1, e2⟩ := (HU.out.2 (by first | rfl | trivial)).1 hcw
          subst e1 e2
          exact ⟨rfl, HI.out.g.then (H5.out.then h6)⟩
end Go.Proofs.YtbamejikafhenaaDoor.Tz
open Go Go.Proofs.YtbamejikafhenaaDoor.Ev
namespace Go.Proofs.YtbamejikafhenaaDoor.Tz
section
variable {V : Env} {f : FuncId} {G : bN}
theorem bn.top (h : bn V f G) {l : Row} {v : AV} (e : db (G.f l .empty) = some v) {w : World} {F : Nat → Prop} (hg : V.Glo w F) (hi : ∀ B, F B → B < w.heap.size) {args : Array Value} (ha : qJ w F dQ l args) :
    Calls V.P f args w fun e w' => ∃ x, e = .returned x ∧ RowKit.Below w.heap.size w w' ∧ ∃ F' μ', ao w' F' μ' v x := by
  obtain ⟨hc, e⟩ := sL e
  obtain ⟨_, v', hc', e', H⟩ := h l .empty _ e (by simp)
  cases e'
  have h0 := H w dQ F args 0 (ad5 (fun _ => rfl) hi hg) ha
  have h1 : CallsIn Fence.wide 0 V.P f args w fun e w' => ∃ x, e = .returned x ∧ ∃ μ' F', ao w' F' μ' v x ∧ aP V μ' F' hc w' ∧ kF dQ F .empty w μ' F' hc w' := h0
  refine (callsIn_wide.1 h1).mono fun e w' ⟨x, e1, μ', F', h2, _, h4⟩ => ⟨x, e1, ⟨?_, ?_, h4.ext.io.2, h4.ext.size, fun B hB => h4.ext.dC B hB fun ho => so ho.wb⟩, F', μ', h2⟩
  · exact (Prod.mk.inj h4.ext.io.1).1
  · exact (Prod.mk.inj h4.ext.io.1).2
end
theorem wa : ∀ n s, (tz n s).length = n
  | 0, _ => rfl
  | n + 1, s => congrArg (· + 1) (wa n _)
section
variable {w : World} {F : Nat → Prop} {μ : Mu}
theorem iE {i n : Nat} {x : Value} (h : ao w F μ (.int i n) x) : n < md i ∧ x = .int (kd i) ((kd i).wrap n) := by cases h with | int h => exact ⟨h, rfl⟩
theorem a7g {s n : Nat} {x : Value} (h : ao w F μ (.str s n) x) : x = qP (vz n s) := by
  cases h with
  | str =>
    rename_i b
    rw [show b.size = b.data.toList.length from rfl, fQ]
theorem wrap_small {c : Nat} (h : c ≤ 1000) : (kd 3).wrap (c : Int) = c := by
  show IntKind.i64.wrap _ = _
  simp only [IntKind.wrap]
  first
    | omega
    | (simp [IntKind.bits, IntKind.signed]; omega)
theorem aj6 {v : AV} {l : List UInt8} {c : Nat} {x : Value} (h : oJ (some v) = some (l, c)) (hx : ao w F μ v x) : x = a3q l c ∧ c ≤ 1000 ∧ l.length ≤ 1000000 := by
  unfold oJ at h
  split at h
  · rename_i o s n a i c' a2 m e
    injection e with e
    subst e
    split at h
    · rename_i hh
      obtain ⟨rfl, hc, hn⟩ := hh
      injection h with h
      injection h with h1 h2
      subst h1 h2
      refine ⟨?_, hc, by rw [sf]; omega⟩
      cases hx with
      | bB us hl hu hr =>
        rename_i vs
        have hs : vs.size = 2 := by rw [← hl]; rfl
        have r0 := hr 0 (by omega)
        have r1 := hr 1 (by omega)
        have e0 := a7g (s := s) (n := n) r0
        have e1 := (iE (i := 3) (n := c') r1).2
        rw [wrap_small hc] at e1
        have : vs = #[us 0, us 1] := by
          apply Array.ext
          · exact hs
          · intro i h1 h2
            have := hu i h1
            rw [Array.getElem?_eq_getElem h1] at this
            have hi : i = 0 ∨ i = 1 := by have : i < 2 := by omega
                                          omega
            rcases hi with rfl | rfl
            · injection this
            · injection this
        rw [this, e0, e1]
        rfl
    · cases h
  · cases h
theorem s_val {v : AV} {l : List UInt8} {x : Value} (h : sOf (some v) = some l) (hx : ao w F μ v x) : x = qP l ∧ l.length ≤ 1000000 := by
  unfold sOf at h
  split at h
  · rename_i o s n e
    injection e with e
    subst e
    split at h
    · rename_i hn
      injection h with h
      subst h
      exact ⟨a7g hx, by rw [sf]; omega⟩
    · cases h
  · cases h
theorem b_val {v : AV} {b : Bool} {x : Value} (h : bOf (some v) = some b) (hx : ao w F μ v x) : x = .bool b := by
  unfold bOf at h
  split at h
  · rename_i o b' e
    injection e with e
    subst e
    injection h with h
    subst h
    cases hx; rfl
  · cases h
theorem a5L {v : AV} {x : Value} (h : vl v = true) (hx : ao w F μ v x) : ∃ p n k, x = .slice p n k := by
  cases hx with
  | vs => exact ⟨_, _, _, rfl⟩
  | vs0 => exact ⟨_, _, _, rfl⟩
  | emp => exact ⟨_, _, _, rfl⟩
  | qK => exact ⟨_, _, _, rfl⟩
  | _ => cases h
theorem w7 {cs : Array Value} {us : Nat → Value} (hs : cs.size = 3) (hu : ∀ i, i < 3 → cs[i]? = some (us i)) : cs = #[us 0, us 1, us 2] := by
  apply Array.ext
  · exact hs
  · intro i h1 h2
    have hi : i < 3 := by omega
    have := hu i hi
    rw [Array.getElem?_eq_getElem h1] at this
    rcases (by omega : i = 0 ∨ i = 1 ∨ i = 2) with rfl | rfl | rfl
    · injection this
    · injection this
    · injection this
theorem afW {v : AV} {x : Value} (h : a3v v = true) (hx : ao w F μ v x) : ∃ p0 n0 k0 p1 n1 k1 p2 n2 k2, x = .agg #[.slice p0 n0 k0, .slice p1 n1 k1, .slice p2 n2 k2] := by
  unfold a3v at h
  split at h
  · rename_i o a _ b _ c _ n
    simp only [Bool.and_eq_true, decide_eq_true_eq] at h
    obtain ⟨⟨⟨rfl, h0⟩, h1⟩, h2⟩ := h
    cases hx with
    | agg us hs hu _ hr =>
      obtain ⟨p0, n0, k0, e0⟩ := a5L h0 (hr 0 (by decide))
      obtain ⟨p1, n1, k1, e1⟩ := a5L h1 (hr 1 (by decide))
      obtain ⟨p2, n2, k2, e2⟩ := a5L h2 (hr 2 (by decide))
      exact ⟨p0, n0, k0, p1, n1, k1, p2, n2, k2, by rw [w7 hs hu, e0, e1, e2]⟩
  · cases h
theorem af6 {v a b c : AV} {x : Value} (h : uf v = some (a, b, c)) (hx : ao w F μ v x) : ∃ o f u, x = .agg #[.int .u8 o, .int .i64 f, .int .i64 u] ∧ ao w F μ a (.int .u8 o) ∧ ao w F μ b (.int .i64 f) ∧ ao w F μ c (.int .i64 u) := by
  unfold uf at h
  split at h
  · split at h
    · rename_i o i0 a' _ i1 b' _ i2 c' _ n hh
      obtain ⟨rfl, rfl, rfl, rfl⟩ := hh
      injection h with h
      injection h with h1 h
      injection h with h2 h3
      subst h1 h2 h3
      cases hx with
      | agg us hs hu _ hr =>
        have r0 := hr 0 (by decide)
        have r1 := hr 1 (by decide)
        have r2 := hr 2 (by decide)
        obtain ⟨_, e0⟩ := iE (i := 4) (n := a') r0
        obtain ⟨_, e1⟩ := iE (i := 3) (n := b') r1
        obtain ⟨_, e2⟩ := iE (i := 3) (n := c') r2
        rw [e0] at r0
        rw [e1] at r1
        rw [e2] at r2
        exact ⟨_, _, _, by rw [w7 hs hu, e0, e1, e2]; rfl, r0, r1, r2⟩
    · cases h
  · cases h
end
end Go.Proofs.YtbamejikafhenaaDoor.Tz
namespace Go.Proofs.YtbamejikafhenaaDoor.Tz
section
variable (line : bN) (m : AV) (t : Row) (o : Nat)
noncomputable def sJ (j : Nat) : List UInt8 := ((oJ (db (line.f (.nd m .lf (.nd (t.at (o + j)) .lf .lf)) .empty))).getD ([], 0)).1
noncomputable def cJ (j : Nat) : Nat := ((oJ (db (line.f (.nd m .lf (.nd (t.at (o + j)) .lf .lf)) .empty))).getD ([], 0)).2
def oR (j : Nat) : Prop := mkF (t.at (o + j)) = true ∧ oJ (db (line.f (.nd m .lf (.nd (t.at (o + j)) .lf .lf)) .empty)) = some (sJ line m t o j, cJ line m t o j)
theorem zP (n : Nat) : ∀ k i r z, i + k = n → gz line m t o k i (yH (sJ line m t o) i) = some (r, z) → (∀ j, j < i → oR line m t o j ∧ cJ line m t o j = 0) →
    (z = 0 ∧ r = yH (sJ line m t o) n ∧ ∀ j, j < n → oR line m t o j ∧ cJ line m t o j = 0) ∨ (∃ q, q < n ∧ (∀ j, j < q → oR line m t o j ∧ cJ line m t o j = 0) ∧ oR line m t o q ∧ cJ line m t o q ≠ 0 ∧ z = cJ line m t o q ∧ r = [])
  | 0, i, r, z, hi, h, hb => by
    obtain rfl : i = n := hi
    injection h with h
    injection h with h1 h2
    exact .inl ⟨h2.symm, h1.symm, hb⟩
  | k + 1, i, r, z, hi, h, hb => by
    rw [gz] at h
    split at h
    · rename_i hm
      cases hs : oJ (db (line.f (.nd m .lf (.nd (t.at (o + i)) .lf .lf)) .empty)) with
      | none => rw [hs] at h; cases h
      | some p =>
        obtain ⟨s, c⟩ := p
        rw [hs] at h
        dsimp only at h
        have es : sJ line m t o i = s := by unfold sJ; rw [hs]; rfl
        have ec : cJ line m t o i = c := by unfold cJ; rw [hs]; rfl
        have hg : oR line m t o i := ⟨hm, by rw [es, ec]; exact hs⟩
        split at h
        · rename_i hc
          refine zP n k (i + 1) r z (by omega) ?_ fun j hj => ?_
          · rw [← es] at h; exact h
          · rcases Nat.lt_succ_iff_lt_or_eq.1 hj with q | rfl
            · exact hb j q
            · exact ⟨hg, ec.trans hc⟩
        · rename_i hc
          injection h with h
          injection h with h1 h2
          exact .inr ⟨i, by omega, hb, hg, by rw [ec]; exact hc, by rw [ec]; exact h2.symm, h1.symm⟩
    · cases h
end
noncomputable def mkV (v : AV) : MkV := match v with
  | .agg (.nd (.int _ a) _ (.nd (.int _ b) _ (.nd (.int _ c) _ (.nd (.int _ d) _ (.nd (.int _ e) _ (.nd (.int _ f) _ (.nd (.int _ g) _ .lf))))))) _ => ⟨(kd 3).wrap a, (kd 3).wrap b, (kd 3).wrap c, (kd 3).wrap d, (kd 4).wrap e, (kd 3).wrap f, (kd 4).wrap g⟩
  | _ => ⟨0, 0, 0, 0, 0, 0, 0⟩
theorem a3d {v : AV} {w : World} {F : Nat → Prop} {μ : Mu} {us : Nat → Value} (h : mkF v = true) (hu : ∀ i, i < 7 → ao w F μ (elc v i) (us i)) : ∀ j x, (mkV v).cells[j]? = some x → j < 7 ∧ us j = x := by
  unfold mkF at h
  split at h
  · rename_i o i0 a _ i1 b _ i2 c _ i3 d _ i4 e _ i5 f _ i6 g _ n
    simp only [decide_eq_true_eq] at h
    obtain ⟨rfl, rfl, rfl, rfl, rfl, rfl, rfl, rfl⟩ := h
    have e0 := (iE (i := 3) (n := a) (hu 0 (by decide))).2
    have e1 := (iE (i := 3) (n := b) (hu 1 (by decide))).2
    have e2 := (iE (i := 3) (n := c) (hu 2 (by decide))).2
    have e3 := (iE (i := 3) (n := d) (hu 3 (by decide))).2
    have e4 := (iE (i := 4) (n := e) (hu 4 (by decide))).2
    have e5 := (iE (i := 3) (n := f) (hu 5 (by decide))).2
    have e6 := (iE (i := 4) (n := g) (hu 6 (by decide))).2
    intro j x hj
    match j with
    | 0 => exact ⟨by decide, e0.trans (Option.some.inj hj)⟩
    | 1 => exact ⟨by decide, e1.trans (Option.some.inj hj)⟩
    | 2 => exact ⟨by decide, e2.trans (Option.some.inj hj)⟩
    | 3 => exact ⟨by decide, e3.trans (Option.some.inj hj)⟩
    | 4 => exact ⟨by decide, e4.trans (Option.some.inj hj)⟩
    | 5 => exact ⟨by decide, e5.trans (Option.some.inj hj)⟩
    | 6 => exact ⟨by decide, e6.trans (Option.some.inj hj)⟩
    | j + 7 => cases hj
  · cases h
theorem ahl {v : AV} {w : World} {F : Nat → Prop} {us : Nat → Value} (h : mkF v = true) (hu : ∀ i, i < 7 → ao w F dQ (elc v i) (us i)) : ao w F dQ v (mkV v).agg := by
  have hc := a3d h hu
  unfold mkF at h
  split at h
  · rename_i o i0 a l0 i1 b l1 i2 c l2 i3 d l3 i4 e l4 i5 f l5 i6 g l6 n
    simp only [decide_eq_true_eq] at h
    obtain ⟨rfl, rfl, rfl, rfl, rfl, rfl, rfl, rfl⟩ := h
    refine .agg us rfl (fun i hi => ?_) (fun i hi => ?_) fun i hi => hu i hi
    · have : ∃ x, (mkV (.agg (.nd (.int 3 a) l0 (.nd (.int 3 b) l1 (.nd (.int 3 c) l2 (.nd (.int 3 d) l3 (.nd (.int 4 e) l4 (.nd (.int 3 f) l5 (.nd (.int 4 g) l6 .lf))))))) 7)).cells[i]? = some x := by
        rcases (by omega : i = 0 ∨ i = 1 ∨ i = 2 ∨ i = 3 ∨ i = 4 ∨ i = 5 ∨ i = 6) with rfl | rfl | rfl | rfl | rfl | rfl | rfl <;> exact ⟨_, rfl⟩
      obtain ⟨x, hx⟩ := this
      rw [(hc i x hx).2, ← hx]
      exact List.getElem?_toArray
    · have : ∃ x, (mkV (.agg (.nd (.int 3 a) l0 (.nd (.int 3 b) l1 (.nd (.int 3 c) l2 (.nd (.int 3 d) l3 (.nd (.int 4 e) l4 (.nd (.int 3 f) l5 (.nd (.int 4 g) l6 .lf))))))) 7)).cells[i]? = some x := by
        rcases (by omega : i = 0 ∨ i = 1 ∨ i = 2 ∨ i = 3 ∨ i = 4 ∨ i = 5 ∨ i = 6) with rfl | rfl | rfl | rfl | rfl | rfl | rfl <;> exact ⟨_, rfl⟩
      obtain ⟨x, hx⟩ := this
      rw [(hc i x hx).2]
      revert hx
      match i with
      | 0 => intro hx; rw [← Option.some.inj hx]; rfl
      | 1 => intro hx; rw [← Option.some.inj hx]; rfl
      | 2 => intro hx; rw [← Option.some.inj hx]; rfl
      | 3 => intro hx; rw [← Option.some.inj hx]; rfl
      | 4 => intro hx; rw [← Option.some.inj hx]; rfl
      | 5 => intro hx; rw [← Option.some.inj hx]; rfl
      | 6 => intro hx; rw [← Option.some.inj hx]; rfl
      | j + 7 => omega
  · cases h
theorem args3 {w : World} {F : Nat → Prop} {μ : Mu} {a b c : AV} {p q r : Row} {args : Array Value} (h : qJ w F μ (.nd a p (.nd b q (.nd c r .lf))) args) : ∃ x y z, args = #[x, y, z] ∧ ao w F μ a x ∧ ao w F μ b y ∧ ao w F μ c z := by
  obtain ⟨h1, h2⟩ := h
  obtain ⟨l⟩ := args
  match l with
  | [] => cases h1
  | [x] => cases h1
  | [x, y] => cases h1
  | [x, y, z] => exact ⟨x, y, z, rfl, h2 0 x rfl, h2 1 y rfl, h2 2 z rfl⟩
  | x :: y :: z :: u :: l => exact absurd h1 (by simp [len])
theorem a6v {w : World} {F : Nat → Prop} {μ : Mu} {a : AV} {x : Value} (h : ao w F μ a x) : qJ w F μ (.nd a .lf .lf) #[x] :=
  ⟨rfl, fun i u hu => by
    match i with
    | 0 => injection hu with hu; subst hu; exact h
    | i + 1 => cases hu⟩
theorem ahN {w : World} {F : Nat → Prop} {μ : Mu} {a b : AV} {x y : Value} (h : ao w F μ a x) (k : ao w F μ b y) : qJ w F μ (.nd a .lf (.nd b .lf .lf)) #[x, y] :=
  ⟨rfl, fun i u hu => by
    match i with
    | 0 => injection hu with hu; subst hu; exact h
    | 1 => injection hu with hu; subst hu; exact k
    | i + 2 => cases hu⟩
theorem afD (t : Row) (o j i : Nat) (hi : i < 7) : cellAt 7 t (o * 7 + (j * 7 + i)) = elc (t.at (o + j)) i := by
  unfold cellAt
  rw [if_neg (by decide), show (o * 7 + (j * 7 + i)) / 7 = o + j by omega, show (o * 7 + (j * 7 + i)) % 7 = i by omega]
theorem a9V {a : AV} {t : Row} {o n : Nat} {w : World} {F : Nat → Prop} {x : Value} (h : jL a = some (t, o, n)) (hx : ao w F dQ a x) :
    ∃ q cap, x = .slice q n cap ∧ (n = 0 ∨ ∃ b off, q = some ⟨b, off, none⟩ ∧ F b ∧ ∀ j, j < n → mkF (t.at (o + j)) = true → Has w b (off + j * 7) (mkV (t.at (o + j))).cells ∧ ao w F dQ (t.at (o + j)) (mkV (t.at (o + j))).agg) := by
  cases hx with
  | vs us hF hc hu h1 hr =>
    rename_i t' o' n' z' B off cap
    rw [jL] at h
    split at h
    · rename_i hz
      subst hz
      injection h with h
      injection h with h2 h
      injection h with h3 h4
      subst h2 h3 h4
      refine ⟨_, _, rfl, .inr ⟨B, off, rfl, hF, fun j hj hm => ?_⟩⟩
      have hr' : ∀ i, i < 7 → ao w F dQ (elc (t'.at (o' + j)) i) (us (j * 7 + i)) := fun i hi => by
        rw [← afD t' o' j i hi]; exact hr _ (by omega)
      refine ⟨fun i v hv => ?_, ahl hm hr'⟩
      obtain ⟨hi, e⟩ := a3d hm hr' i v hv
      rw [← e, Nat.add_assoc]
      exact hu _ (by omega)
    · cases h
  | vs0 =>
    rw [jL] at h
    split at h
    · injection h with h
      injection h with h2 h
      injection h with h3 h4
      subst h2 h3 h4
      exact ⟨_, _, rfl, .inl rfl⟩
    · cases h
  | emp =>
    injection h with h
    injection h with h2 h
    injection h with h3 h4
    subst h2 h3 h4
    exact ⟨_, _, rfl, .inl rfl⟩
  | qK =>
    injection h with h
    injection h with h2 h
    injection h with h3 h4
    subst h2 h3 h4
    exact ⟨_, _, rfl, .inl rfl⟩
  | _ => cases h
section
variable {vs : Vs} {line right outc whole : bN} (k5 : bn ⟨Tryd.prog, vs⟩ 5 line) (k33 : bn ⟨Tryd.prog, vs⟩ 33 right) (k20 : bn ⟨Tryd.prog, vs⟩ 20 outc) (k19 : bn ⟨Tryd.prog, vs⟩ 19 whole)
include k5 k33 k20 k19
theorem ad6 {m a x : AV} {T : List UInt8} {z : Nat} (ht : lq line right outc whole m a x = some (T, z)) {w : World} {F : Nat → Prop} {vm va vx : Value} (hm : ao w F dQ m vm) (hva : ao w F dQ a va) (hx : ao w F dQ x vx)
    (hg : Env.Glo ⟨Tryd.prog, vs⟩ w F) (hi : ∀ B, F B → B < w.heap.size) : z ≤ 1000 ∧ Calls Tryd.prog 9 #[vm, va, vx] w (nQ (a3q T z) w) := by
  cases hsl : jL a with
  | none => rw [lq, hsl] at ht; cases ht
  | some p =>
  obtain ⟨t, o, n⟩ := p
  cases him : a3v m with
  | false => rw [lq, hsl] at ht; dsimp only at ht; rw [if_neg (by rw [him]; decide)] at ht; cases ht
  | true =>
  cases hen : uf x with
  | none => rw [lq, hsl] at ht; dsimp only at ht; rw [if_pos him, hen] at ht; cases ht
  | some p =>
  obtain ⟨xa, xb, xc⟩ := p
  obtain ⟨p0, n0, c0, p1, n1, c1, p2, n2, c2, rfl⟩ := afW him hm
  obtain ⟨q, cap, rfl, hq⟩ := a9V hsl hva
  obtain ⟨ov, fv, uv, rfl, ha, hb, hc⟩ := af6 hen hx
  have later : ∀ {w' : World} {v : AV} {u : Value}, Grow w w' → ao w F dQ v u → ao w' F dQ v u := fun g h => h.mono (fun B hB => g.block B (hi B hB)) (fun _ h => h) fun _ _ h => h
  have ve : ∀ {w' : World}, Grow w w' → Env.Glo ⟨Tryd.prog, vs⟩ w' F := fun g => hg.mono (fun B hB => g.block B (hi B hB)) fun _ h => h
  have qt : ∀ {w' : World}, Grow w w' → ∀ B, F B → B < w'.heap.size := fun g B hB => Nat.lt_of_lt_of_le (hi B hB) g.size
  have callsi : ∀ {f : FuncId} {G : bN} {l : Row} {args : Array Value} {s : List UInt8} {c : Nat} {w' : World}, bn ⟨Tryd.prog, vs⟩ f G → oJ (db (G.f l .empty)) = some (s, c) → Grow w w' → qJ w' F dQ l args → Calls Tryd.prog f args w' (nQ (a3q s c) w') := fun {f G l args s c w'} hG e g harg => by
    cases hv : db (G.f l .empty) with
    | none => rw [hv] at e; cases e
    | some v =>
      rw [hv] at e
      exact (bn.top hG hv (ve g) (qt g) harg).mono fun e' w'' ⟨u, e1, hb, F', μ', hu⟩ => ⟨by rw [e1, (aj6 e hu).1], hb⟩
  have bnd : ∀ {r : aa} {s : List UInt8} {c : Nat}, oJ (db r) = some (s, c) → c ≤ 1000 ∧ s.length ≤ 1000000 := fun {r s c} e => by
    cases hv : db r with
    | none => rw [hv] at e; cases e
    | some v =>
      rw [hv] at e
      unfold oJ at e
      split at e
      · split at e
        · rename_i hh
          injection e with e
          injection e with e1 e2
          subst e1 e2
          exact ⟨hh.2.1, by rw [sf]; exact hh.2.2⟩
        · cases e
      · cases e
  have sB : ∀ j, (sJ line m t o j).length ≤ 1000000 := fun j => by
    unfold sJ
    cases e : oJ (db (line.f (.nd m .lf (.nd (t.at (o + j)) .lf .lf)) .empty)) with
    | none => exact Nat.zero_le _
    | some p => exact (bnd (s := p.1) (c := p.2) e).2
  by_cases hn : 2000 < n
  · rw [vY hsl him hen hn] at ht
    injection ht with ht
    injection ht with h1 h2
    subst h1 h2
    refine ⟨by decide, ku w p0 p1 p2 n0 n1 n2 c0 c1 c2 q n cap (fun _ => ⟨0, 0, 0, 0, 0, 0, 0⟩) ov fv uv (fun _ => []) (fun _ => 0) false [] 0 [] [] [] 4 (fun h => absurd h (by omega)) (fun _ => Nat.zero_le _) (Nat.zero_le _) (Nat.zero_le _) (Nat.zero_le _) (fun h => absurd h (by omega)) (fun h => absurd h (by omega)) (fun h => absurd h (by omega)) (fun h => absurd h (by omega)) ⟨fun _ => ⟨rfl, rfl⟩, fun h => absurd h (by omega)⟩⟩
  · cases hlin : gz line m t o n 0 [] with
    | none => rw [lq, hsl] at ht; dsimp only at ht; rw [if_pos him, hen] at ht; dsimp only at ht; rw [if_neg hn, hlin] at ht; cases ht
    | some p =>
    obtain ⟨acc, ce⟩ := p
    have hat : ∀ j, (∀ i, i < j → ((cJ line m t o i : Nat) : Int) = 0) → j < n → (∀ j, j < n → (∀ i, i < j → ((cJ line m t o i : Nat) : Int) = 0) → oR line m t o j) → oR line m t o j := fun j h1 h2 h3 => h3 j h2 h1
    have mkat : (∀ j, j < n → (∀ i, i < j → ((cJ line m t o i : Nat) : Int) = 0) → oR line m t o j) → MkAt w q n (fun j => mkV (t.at (o + j))) (fun j => ((cJ line m t o j : Nat) : Int)) := fun h3 _ => by
      rcases hq with h | ⟨b, off, e, _, h⟩
      · exact .inl h
      · exact .inr ⟨b, off, e, fun j hj hz => (h j hj (h3 j hj hz).1).1⟩
    have C5 : (∀ j, j < n → (∀ i, i < j → ((cJ line m t o i : Nat) : Int) = 0) → oR line m t o j) → n ≤ 2000 → ∀ j, j < n → (∀ i, i < j → ((cJ line m t o i : Nat) : Int) = 0) → ∀ w', Grow w w' → Calls Tryd.prog 5 #[.agg #[.slice p0 n0 c0, .slice p1 n1 c1, .slice p2 n2 c2], (mkV (t.at (o + j))).agg] w' (nQ (a3q (sJ line m t o j) ((cJ line m t o j : Nat) : Int)) w') := fun h3 _ j hj hz w' g => by
      have hgd := h3 j hj hz
      rcases hq with h | ⟨b, off, e, _, h⟩
      · omega
      · exact callsi k5 hgd.2 g (ahN (later g hm) (later g (h j hj hgd.1).2))
    rcases zP line m t o n n 0 acc ce (Nat.zero_add n) hlin (fun j hj => absurd hj (Nat.not_lt_zero j)) with ⟨rfl, hacc, hall⟩ | ⟨k, hk, hbef, hgk, hck, hce, hacc⟩
    · have good : ∀ j, j < n → (∀ i, i < j → ((cJ line m t o i : Nat) : Int) = 0) → oR line m t o j := fun j hj _ => (hall j hj).1
      rw [a2K hsl him hen hn hlin] at ht
      have hz : ∀ j, j < n → ((cJ line m t o j : Nat) : Int) = 0 := fun j hj => by rw [(hall j hj).2]; rfl
      cases h33 : bOf (db (right.f (.nd x .lf .lf) .empty)) with
      | none => rw [mn, h33] at ht; cases ht
      | some r =>
      have C33 : n ≤ 2000 → (∀ i, i < n → ((cJ line m t o i : Nat) : Int) = 0) → ∀ w', Grow w w' → Calls Tryd.prog 33 #[.agg #[.int .u8 ov, .int .i64 fv, .int .i64 uv]] w' (nQ (.bool r) w') := fun _ _ w' g => by
        cases hv : db (right.f (.nd x .lf .lf) .empty) with
        | none => rw [hv] at h33; cases h33
        | some v =>
          rw [hv] at h33
          exact (bn.top k33 hv (ve g) (qt g) (a6v (later g hx))).mono fun e' w'' ⟨u, e1, hb, F', μ', hu⟩ => ⟨by rw [e1, b_val h33 hu], hb⟩
      cases r with
      | false =>
        rw [a2o h33] at ht
        injection ht with ht
        injection ht with h1 h2
        subst h1 h2
        exact ⟨by decide, ku w p0 p1 p2 n0 n1 n2 c0 c1 c2 q n cap (fun j => mkV (t.at (o + j))) ov fv uv (sJ line m t o) (fun j => ((cJ line m t o j : Nat) : Int)) false [] 0 [] [] [] 8 (mkat good) sB (Nat.zero_le _) (Nat.zero_le _) (Nat.zero_le _) (C5 good) C33 (fun _ _ h => absurd h (by decide)) (fun _ _ h => absurd h (by decide))
          ⟨fun h => absurd h hn, fun _ => ⟨fun k hk _ h => absurd (hz k hk) h, fun _ => ⟨fun _ => ⟨rfl, rfl⟩, fun h => absurd h (by decide)⟩⟩⟩⟩
      | true =>
        cases h20 : oJ (db (outc.f (.nd xa .lf .lf) .empty)) with
        | none => rw [mn, h33] at ht; dsimp only at ht; rw [h20] at ht; cases ht
        | some p =>
        obtain ⟨word, cw⟩ := p
        have b20 := bnd h20
        have C20 : n ≤ 2000 → (∀ i, i < n → ((cJ line m t o i : Nat) : Int) = 0) → true = true → ∀ w', Grow w w' → Calls Tryd.prog 20 #[.int .u8 ov] w' (nQ (a3q word (cw : Int)) w') := fun _ _ _ w' g => callsi k20 h20 g (a6v (later g ha))
        by_cases hcw : cw = 0
        · subst hcw
          cases h1 : sOf (db (whole.f (.nd xb .lf .lf) .empty)) with
          | none => rw [mn, h33] at ht; dsimp only at ht; rw [h20] at ht; dsimp only at ht; rw [if_pos rfl, h1] at ht; cases ht
          | some fl =>
          cases h2 : sOf (db (whole.f (.nd xc .lf .lf) .empty)) with
          | none => rw [mn, h33] at ht; dsimp only at ht; rw [h20] at ht; dsimp only at ht; rw [if_pos rfl, h1] at ht; dsimp only at ht; rw [h2] at ht; cases ht
          | some ul =>
          rw [a3P h33 h20 h1 h2] at ht
          injection ht with ht
          injection ht with e1 e2
          subst e1 e2
          have c19 : ∀ {v : AV} {i : Int} {s : List UInt8} {w' : World}, sOf (db (whole.f (.nd v .lf .lf) .empty)) = some s → ao w F dQ v (.int .i64 i) → Grow w w' → Calls Tryd.prog 19 #[.int .i64 i] w' (nQ (qP s) w') ∧ s.length ≤ 1000000 := fun {v i s w'} e hv g => by
            cases hvo : db (whole.f (.nd v .lf .lf) .empty) with
            | none => rw [hvo] at e; cases e
            | some v' =>
              rw [hvo] at e
              refine ⟨(bn.top k19 hvo (ve g) (qt g) (a6v (later g hv))).mono fun e' w'' ⟨u, e1, hb, F', μ', hu⟩ => ⟨by rw [e1, (s_val e hu).1], hb⟩, ?_⟩
              unfold sOf at e
              split at e
              · split at e
                · injection e with e; subst e; rw [sf]; assumption
                · cases e
              · cases e
          refine ⟨by decide, ku w p0 p1 p2 n0 n1 n2 c0 c1 c2 q n cap (fun j => mkV (t.at (o + j))) ov fv uv (sJ line m t o) (fun j => ((cJ line m t o j : Nat) : Int)) true word 0 fl ul (acc ++ a0L word fl ul) 0 (mkat good) sB b20.2 (c19 h1 hb (RowKit.Below.refl _ _)).2 (c19 h2 hc (RowKit.Below.refl _ _)).2 (C5 good) C33 C20 (fun _ _ _ _ w' g => ⟨(c19 h1 hb g).1, (c19 h2 hc g).1⟩)
            ⟨fun h => absurd h hn, fun _ => ⟨fun k hk _ h => absurd (hz k hk) h, fun _ => ⟨fun h => absurd h (by decide), fun _ => ⟨fun h => absurd rfl h, fun _ => ⟨by rw [hacc], rfl⟩⟩⟩⟩⟩⟩
        · have e : mn right outc whole x xa xb xc acc = some ([], cw) := by
            rw [mn, h33]; dsimp only; rw [h20]; dsimp only; rw [if_neg hcw]
          rw [e] at ht
          injection ht with ht
          injection ht with e1 e2
          subst e1 e2
          exact ⟨b20.1, ku w p0 p1 p2 n0 n1 n2 c0 c1 c2 q n cap (fun j => mkV (t.at (o + j))) ov fv uv (sJ line m t o) (fun j => ((cJ line m t o j : Nat) : Int)) true word cw [] [] [] cw (mkat good) sB b20.2 (Nat.zero_le _) (Nat.zero_le _) (C5 good) C33 C20 (fun _ _ _ h => absurd h (by omega))
            ⟨fun h => absurd h hn, fun _ => ⟨fun k hk _ h => absurd (hz k hk) h, fun _ => ⟨fun h => absurd h (by decide), fun _ => ⟨fun _ => ⟨rfl, rfl⟩, fun h => absurd h (by omega)⟩⟩⟩⟩⟩
    · have good : ∀ j, j < n → (∀ i, i < j → ((cJ line m t o i : Nat) : Int) = 0) → oR line m t o j := fun j hj hz => by
        rcases Nat.lt_trichotomy j k with h | rfl | h
        · exact (hbef j h).1
        · exact hgk
        · have := hz k h; omega
      rw [zJ hsl him hen hn hlin (by rw [hce]; exact hck)] at ht
      injection ht with ht
      injection ht with e1 e2
      subst e1 e2
      refine ⟨by rw [hce]; exact (bnd hgk.2).1, ku w p0 p1 p2 n0 n1 n2 c0 c1 c2 q n cap (fun j => mkV (t.at (o + j))) ov fv uv (sJ line m t o) (fun j => ((cJ line m t o j : Nat) : Int)) false [] 0 [] [] [] ce (mkat good) sB (Nat.zero_le _) (Nat.zero_le _) (Nat.zero_le _) (C5 good) (fun _ h => absurd (h k hk) (by omega)) (fun _ _ h => absurd h (by decide)) (fun _ _ h => absurd h (by decide))
        ⟨fun h => absurd h hn, fun _ => ⟨fun j hj hz h => ?_, fun h => absurd (h k hk) (by dsimp only; omega)⟩⟩⟩
      rcases Nat.lt_trichotomy j k with h' | rfl | h'
      · exact absurd (by dsimp only; rw [(hbef j h').2]; rfl) h
      · exact ⟨rfl, by rw [hce]⟩
      · have := hz k h'; dsimp only at this; omega
theorem abK : bn ⟨Tryd.prog, vs⟩ 9 (a3C line right outc whole) := by
  intro l hp R h hR
  unfold a3C at h
  dsimp only at h
  split at h
  · rename_i m _ a _ x _
    split at h
    · split at h
      · rename_i T z ht
        subst h
        refine ⟨⟨_, Tryd.func9, by kernel_rfl, by kernel_rfl⟩, _, _, rfl, fun w μ F args n hH ha => ?_⟩
        have hμ : μ = dQ := funext fun b => by
          cases hb : μ b with
          | none => rfl
          | some mm => exact absurd (hH.nM b mm hb).1 (Nat.not_lt_zero _)
        subst hμ
        obtain ⟨vm, va, vx, rfl, hm, hva, hx⟩ := args3 ha
        obtain ⟨hz, hc⟩ := ad6 k5 k33 k20 k19 ht hm hva hx hH.ve hH.qt
        refine callsIn_wide.2 (hc.mono fun e w' ⟨e1, g⟩ => ⟨_, e1, dQ, F, a4e (a39 T) (a7j ?_), ?_, .grow g⟩)
        · unfold gD; omega
        · exact hH.grow g.size g.block (fun _ h => h) (fun _ h => .inl h) fun B hB => Nat.lt_of_lt_of_le (hH.qt B hB) g.size
      · exact absurd h.symm hR
    · exact absurd h.symm hR
  · exact absurd h.symm hR
end
def xj (r : Nat) : Bool := !(Nat.beq r 45 || (Nat.ble 48 r && Nat.ble r 57))
set_option maxRecDepth 100000 in
theorem num1 (r : Nat) (W : World) : Calls Tryd.prog 47 #[.int .i32 r] W fun e w' => e = .returned (.bool (xj r)) ∧ ∃ q, w' = W.drewN q := by
  by_cases h1 : r = 45
  · subst h1
    go_enter Tryd.func47, Tryd.ntmps47
    go_wp2_with fail
    go_ret
    exact ⟨rfl, 0, rfl⟩
  · have t1 : ((r : Int) != 45) = true := by simp; omega
    by_cases h2 : r < 48
    · have t2 : decide ((r : Int) < 48) = true := by simp; omega
      have e : xj r = true := by
        unfold xj
        rw [show Nat.beq r 45 = false from by rw [← Bool.not_eq_true]; intro h; exact h1 (Nat.eq_of_beq_eq_true h), show Nat.ble 48 r = false from by rw [← Bool.not_eq_true]; intro h; have := Nat.le_of_ble_eq_true h; omega]
        rfl
      rw [e]
      go_enter Tryd.func47, Tryd.ntmps47
      go_wp2_with fail
      go_ret
      exact ⟨rfl, 0, rfl⟩
    · have t2 : decide ((r : Int) < 48) = false := by simp; omega
      have e : xj r = decide ((57 : Int) < (r : Int)) := by
        unfold xj
        rw [show Nat.beq r 45 = false from by rw [← Bool.not_eq_true]; intro h; exact h1 (Nat.eq_of_beq_eq_true h), show Nat.ble 48 r = true from Nat.ble_eq_true_of_le (by omega)]
        by_cases h3 : r ≤ 57
        · rw [Nat.ble_eq_true_of_le h3, decide_eq_false (by omega)]; rfl
        · rw [show Nat.ble r 57 = false from by rw [← Bool.not_eq_true]; intro h; exact h3 (Nat.le_of_ble_eq_true h), decide_eq_true (by omega)]; rfl
      rw [e]
      go_enter Tryd.func47, Tryd.ntmps47
      go_wp2_with fail
      go_ret
      exact ⟨rfl, 0, rfl⟩
theorem zQ (c : UInt8) : xj c.toNat = !eR c := rfl
theorem zT {r : Nat} (h : 128 ≤ r) : xj r = true := by
  unfold xj
  rw [show Nat.beq r 45 = false from by rw [← Bool.not_eq_true]; intro h2; have := Nat.eq_of_beq_eq_true h2; omega, show Nat.ble r 57 = false from by rw [← Bool.not_eq_true]; intro h2; have := Nat.le_of_ble_eq_true h2; omega]
  cases Nat.ble 48 r <;> rfl
theorem uw (c : UInt8) (l : List UInt8) : bQ (c :: l) = if eR c then bQ l + 1 else 0 := by
  show Bool.rec (motive := fun _ => Nat) 0 (Nat.succ (bQ l)) (eR c) = _
  cases eR c <;> rfl
theorem lV : ∀ l : List UInt8, bQ l ≤ l.length
  | [] => Nat.le_refl _
  | c :: l => by
    rw [uw]
    have := lV l
    split <;> simp only [List.length_cons] <;> omega
theorem a61 {c : UInt8} (h : 128 ≤ c.toNat) : eR c = false := by
  have := zT h
  rw [zQ] at this
  cases hb : eR c with
  | false => rfl
  | true => rw [hb] at this; cases this
theorem idx_eq (s : ByteArray) : ∀ f pos, s.size ≤ pos + f → Lib.idxFuncFrom xj true s f pos = if bQ (s.data.toList.drop pos) = (s.data.toList.drop pos).length then -1 else ((pos + bQ (s.data.toList.drop pos) : Nat) : Int)
  | 0, pos, h => by
    have : s.data.toList.drop pos = [] := List.drop_eq_nil_of_le (by show s.data.toList.length ≤ pos; have : s.data.toList.length = s.size := rfl; omega)
    rw [this]; rfl
  | f + 1, pos, h => by
    have hl : s.data.toList.length = s.size := rfl
    by_cases hp : pos < s.size
    · have hd : s.data.toList.drop pos = s[pos]'hp :: s.data.toList.drop (pos + 1) := List.drop_eq_getElem_cons (by omega)
      have hle := lV (s.data.toList.drop (pos + 1))
      rw [hd, uw, Lib.idxFuncFrom, if_pos hp]
      by_cases ha : (s[pos]'hp).toNat < 128
      · rw [decode_ascii s pos hp ha]
        dsimp only
        rw [zQ]
        cases hb : eR (s[pos]'hp) with
        | false =>
          simp only [Bool.not_false, if_true, Bool.false_eq_true, if_false, List.length_cons]
          rw [if_neg (by omega)]
          rfl
        | true =>
          rw [idx_eq s f (pos + 1) (by omega)]
          simp only [Bool.not_true, Bool.false_eq_true, if_false, if_true, List.length_cons, Nat.add_right_cancel_iff]
          split
          · rfl
          · congr 1; omega
      · have hh := decode_high s pos hp (by omega)
        rw [if_pos (zT hh.1), a61 (by omega)]
        simp only [Bool.false_eq_true, if_false, List.length_cons]
        rw [if_neg (by omega)]
        rfl
    · rw [Lib.idxFuncFrom, if_neg hp, List.drop_eq_nil_of_le (by omega)]
      rfl
theorem wu (l : List UInt8) : ixN l = if bQ l = l.length then -1 else (bQ l : Int) := by
  unfold ixN
  cases hb : Nat.beq (bQ l) l.length with
  | true => rw [if_pos (Nat.eq_of_beq_eq_true hb)]
  | false => rw [if_neg fun h => by rw [h, Nat.beq_refl] at hb; cases hb]
theorem afJ (s : ByteArray) : Lib.idxFunc xj true s = ixN s.data.toList := by
  unfold Lib.idxFunc
  rw [idx_eq s s.size 0 (by omega), wu, List.drop_zero]
  split
  · rfl
  · rw [Nat.zero_add]
theorem aef {vs : Vs} : bn ⟨Tryd.prog, vs⟩ 46 (ixfF 47) := by
  refine bn.known ⟨_, Tryd.func46, by kernel_rfl, by kernel_rfl⟩ fun l hp R h hR => ?_
  obtain ⟨a, _, r, rfl, h1⟩ := jt hR h
  obtain ⟨b, _, r, rfl, h2⟩ := jt hR h1
  obtain ⟨rfl, h3⟩ := rr hR h2
  obtain ⟨s, n, rfl, h4⟩ := dO hR h3
  obtain ⟨g, tt, c, x, y, rfl, h5⟩ := a25 hR h4
  obtain ⟨hg, h6⟩ := ax hR h5
  obtain ⟨hc, h7⟩ := ax hR h6
  obtain ⟨hx, h8⟩ := ax hR h7
  obtain ⟨hy, h9⟩ := ax hR h8
  obtain ⟨hn, h10⟩ := ax hR h9
  rw [aF] at hg hc hx hy
  rw [bA] at hn
  subst hg hc hx hy
  refine ⟨_, h10.symm, fun w F μ args hgl ha => ?_⟩
  obtain ⟨vs', vf, rfl, hs, hf⟩ := a7c ha
  cases hs with
  | str =>
  rename_i b1
  cases hf with
  | fn us e1 e2 e3 e4 e5 e6 =>
  rename_i fs cs
  obtain rfl : fs = #[] := Array.eq_empty_of_size_eq_zero e1
  obtain rfl : cs = #[] := Array.eq_empty_of_size_eq_zero e2
  rw [show vz b1.size (aL b1.data.toList) = b1.data.toList from fQ b1.data.toList]
  refine (Tryd.strings_IndexFunc_runes 47 #[] (fun args w => rC ⟨_, Tryd.func47, by kernel_rfl, by kernel_rfl⟩ args w) xj b1 w (fun W r _ _ => num1 r W)).mono fun e w' ⟨h1, h2⟩ => ⟨_, h1, h2, ?_⟩
  rw [afJ]
  refine a7j ?_
  have hl : b1.data.toList.length ≤ 4294967280 := hn
  have := lV b1.data.toList
  unfold gD
  rw [wu]
  split <;> omega
theorem sp_nl {c : UInt8} {l : List UInt8} : aR c (c :: l) = [] :: aR c l := by
  show (Bool.rec (motive := fun _ => List (List UInt8)) _ ([] :: aR c l) (Nat.beq c.toNat c.toNat)) = _
  rw [Nat.beq_refl]
theorem a88 {c b : UInt8} {l p : List UInt8} {r : List (List UInt8)} (h : b ≠ c) (e : aR c l = p :: r) : aR c (b :: l) = (b :: p) :: r := by
  show (Bool.rec (motive := fun _ => List (List UInt8)) (List.rec (motive := fun _ => List (List UInt8)) [[b]] (fun p r _ => (b :: p) :: r) (aR c l)) ([] :: aR c l) (Nat.beq b.toNat c.toNat)) = _
  have : Nat.beq b.toNat c.toNat = false := by
    rw [← Bool.not_eq_true]; intro h2; exact h (UInt8.toNat_inj.1 (Nat.eq_of_beq_eq_true h2))
  rw [e, this]
theorem a3G (c : UInt8) : ∀ s : List UInt8, Lib.splitK [c] 0 (s.count c) s = aR c s
  | [] => rfl
  | b :: t => by
    have ih := a3G c t
    by_cases h : b = c
    · subst h
      rw [List.count_cons_self, Lib.splitK, Lib.index_one]
      have e : Lib.indexByte (b :: t) b = 0 := by unfold Lib.indexByte; rw [if_pos (beq_self_eq_true b)]
      rw [e, if_neg (by decide), sp_nl, ← ih]
      rfl
    · rw [List.count_cons_of_ne h]
      cases hk : t.count c with
      | zero =>
        rw [hk] at ih
        rw [a88 h ih.symm]
        rfl
      | succ k =>
        rw [hk] at ih
        have hmem : c ∈ t := List.count_pos_iff.1 (by omega)
        have hne : Lib.indexByte t c ≠ -1 := fun e => by
          obtain ⟨i, hi, hc⟩ := List.mem_iff_getElem.1 hmem
          exact Lib.indexByte_none e i (by rw [List.getElem?_eq_getElem hi, hc])
        have hge := Lib.indexByte_ge t c
        obtain ⟨i, hi⟩ : ∃ i : Nat, Lib.indexByte t c = i := ⟨(Lib.indexByte t c).toNat, by omega⟩
        have e : Lib.indexByte (b :: t) c = ((i + 1 : Nat) : Int) := by
          unfold Lib.indexByte
          rw [if_neg (by simpa using h), hi, if_neg (by rw [beq_iff_eq]; omega)]
          omega
        rw [Lib.splitK, Lib.index_one, hi, if_neg (by rw [beq_iff_eq]; omega)] at ih
        rw [Lib.splitK, Lib.index_one, e, if_neg (by rw [beq_iff_eq]; omega), a88 h ih.symm]
        have e1 : (((i + 1 : Nat) : Int)).toNat = i + 1 := rfl
        have e2 : ((i : Int)).toNat = i := rfl
        rw [e1, e2]
        rfl
theorem tL : ∀ {l : List AV} {i : Nat} {v : AV}, l[i]? = some v → nth (aw l) i = v
  | [], i, v, h => by simp at h
  | a :: l, 0, v, h => Option.some.inj h
  | a :: l, i + 1, v, h => tL (l := l) (i := i) h
theorem tm {vs : Vs} (hG : ∀ w, vs.G w → ∃ m, w.cell? ⟨0, 0, none⟩ = some (.int .i64 m)) : bn ⟨Tryd.prog, vs⟩ 37 a1J := by
  intro l hp R h hR
  obtain ⟨a, _, r, rfl, h1⟩ := jt hR h
  obtain ⟨b, _, r, rfl, h2⟩ := jt hR h1
  obtain ⟨rfl, h3⟩ := rr hR h2
  obtain ⟨s, n, rfl, h4⟩ := dO hR h3
  obtain ⟨t, m, rfl, h5⟩ := dO hR h4
  obtain ⟨hm, h6⟩ := ax hR h5
  obtain ⟨hn, h7⟩ := ax hR h6
  rw [aF] at hm
  rw [bA] at hn
  subst hm
  dsimp only at h7
  obtain ⟨tr, htr, h8⟩ := wo (z := 1) b8 hR _ h7
  obtain ⟨hp', h9, hs, hid⟩ := a1S b8 hR rfl rfl h8
  refine ⟨⟨_, Tryd.func37, by kernel_rfl, by kernel_rfl⟩, _, hp', h9.symm, fun w μ F args k hH ha => ?_⟩
  obtain ⟨x, y, rfl, hx, hy⟩ := a7c ha
  obtain ⟨bs, rfl, rfl, rfl⟩ := sd hx
  obtain ⟨bt, rfl, h1t, rfl⟩ := sd hy
  obtain ⟨mm, hmm⟩ := hG w hH.ve.1
  have hone : ∃ c : UInt8, bt.data.toList = [c] := by
    have : bt.data.toList.length = 1 := h1t.symm
    match hb : bt.data.toList with
    | [c] => exact ⟨c, rfl⟩
    | [] => rw [hb] at this; cases this
    | _ :: _ :: _ => rw [hb] at this; cases this
  obtain ⟨c, hc⟩ := hone
  have hps : aR (aL bt.data.toList).toUInt8 (vz bs.size (aL bs.data.toList)) = aR c bs.data.toList := by
    rw [show vz bs.size (aL bs.data.toList) = bs.data.toList from fQ _, hc]
    congr 1
    show (c.toNat + 256 * 0).toUInt8 = c
    simp
  rw [hps] at htr hs
  have hdat : (Lib.splitB bt 0 (Lib.countB bs bt) bs).map (·.data.toList) = aR c bs.data.toList := by
    rw [Lib.splitB_data, hc, ← a3G, ← Lib.count_one, ← hc]
  generalize hL : Lib.splitB bt 0 (Lib.countB bs bt) bs = L at hdat
  have hlen : L.length = (aR c bs.data.toList).length := by rw [← hdat, List.length_map]
  have hcnt : Lib.countB bs bt + 1 = (aR c bs.data.toList).length := by
    rw [← hlen, ← hL]
    exact (Lib.splitB_all bt (by omega) 0 _ bs rfl).symm
  refine callsIn_wide.2 ((Tryd.strings_Split bs bt mm w (by omega) hmm (by omega)).mono fun e w' ⟨e1, e2⟩ => ?_)
  rw [hL] at e2
  have hcells : ∀ i, i < (aR c bs.data.toList).length → ∃ y, ((L.map Value.string).toArray)[i]? = some y ∧ y.oneCell' = true ∧ ao w F μ (cellAt 1 tr i) y := fun i hi => by
    have hiL : i < L.length := by omega
    refine ⟨.string L[i], ?_, rfl, ?_⟩
    · rw [List.getElem?_toArray, List.getElem?_map, List.getElem?_eq_getElem hiL]; rfl
    · rw [htr i, if_pos ⟨Nat.zero_le _, by omega⟩, Nat.sub_zero]
      have e : nth (aw ((aR c bs.data.toList).map S)) i = S L[i].data.toList := by
        have hg : (aR c bs.data.toList)[i]? = some L[i].data.toList := by
          rw [← hdat, List.getElem?_map, List.getElem?_eq_getElem hiL]; rfl
        exact tL (by rw [List.getElem?_map, hg]; rfl)
      rw [e]
      exact a39 _
  have hid0 : μ hp.nx = none := ti hH
  obtain ⟨hH', hE⟩ := hH.row hid0 (w' := w') (c := (L.map Value.string).toArray) (T := 9) (fz := (0, 0)) (by rw [e2]; rfl) hs hid (.inl rfl) hcells (fun _ i hi => by
    rw [htr i, if_pos ⟨Nat.zero_le _, by omega⟩, Nat.sub_zero]
    obtain ⟨x, hx⟩ : ∃ x, (aR c bs.data.toList)[i]? = some x := ⟨_, List.getElem?_eq_getElem hi⟩
    rw [tL (v := S x) (by rw [List.getElem?_map, hx]; rfl)]
    rfl) (by rw [e2]; exact ⟨rfl, rfl⟩)
  refine ⟨_, e1, _, F, ?_, hH', .of hE fun b hb => ?_⟩
  · rw [hcnt, hps]
    have := ao.ms (w := w') (F := F) (o := 0) (n := (aR c bs.data.toList).length) (z := 1) (c := (aR c bs.data.toList).length) (bS μ hp.nx ⟨w.heap.size, 0, (L.map Value.string).toArray.size⟩) (Nat.le_refl _) (by simp; omega)
    exact this
  · by_cases h : b = hp.nx
    · exact .inr (by omega)
    · rw [dX μ _ h] at hb; exact .inl hb
end Go.Proofs.YtbamejikafhenaaDoor.Tz
