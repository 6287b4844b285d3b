import Derived.Test.YtbamejikafhenaaDoorEvAA
import Derived.Test.YtbamejikafhenaaDoorEvAN
import Derived.Test.YtbamejikafhenaaDoorEvAO
import Derived.Test.YtbamejikafhenaaDoorProg
open Go Go.Proofs.YtbamejikafhenaaDoor.Ev
namespace Go.Proofs.YtbamejikafhenaaDoor.Tz
theorem ag5 {α : Type} {l : List α} (h : l.length = 2) : ∃ c0 c1, l = [c0, c1] := by
  match l, h with
  | [c0, c1], _ => exact ⟨c0, c1, rfl⟩
theorem agN {α : Type} {l : List α} (h : l.length = 3) : ∃ c0 c1 c2, l = [c0, c1, c2] := by
  match l, h with
  | [c0, c1, c2], _ => exact ⟨c0, c1, c2, rfl⟩
theorem agU {α : Type} {l : List α} (h : l.length = 4) : ∃ c0 c1 c2 c3, l = [c0, c1, c2, c3] := by
  match l, h with
  | [c0, c1, c2, c3], _ => exact ⟨c0, c1, c2, c3, rfl⟩
theorem agu {α : Type} {l : List α} (h : l.length = 7) : ∃ c0 c1 c2 c3 c4 c5 c6, l = [c0, c1, c2, c3, c4, c5, c6] := by
  match l, h with
  | [c0, c1, c2, c3, c4, c5, c6], _ => exact ⟨c0, c1, c2, c3, c4, c5, c6, rfl⟩
theorem qv : Tryd.prog.underlying 9 = some (.string) := by kernel_rfl
theorem a6z : Tryd.prog.cellsOf 9 = 1 := by kernel_rfl
theorem gu : Tryd.prog.underlying 3 = some (.int .i64) := by kernel_rfl
theorem gx : Tryd.prog.cellsOf 3 = 1 := by kernel_rfl
theorem aai : (Tryd.prog.underlying 94).map (fun d => match d with | .struct fs => fs.toList.map (fun f => (f.type, f.offset)) | _ => []) = some [(9, 0), (3, 1)] := by kernel_rfl
theorem a6K : Tryd.prog.cellsOf 94 = 2 := by kernel_rfl
structure FdA where
  nm : List UInt8
  ty : Int
noncomputable def FdA.av (x : FdA) : List AV := [S x.nm, I x.ty]
def FdA.In (x : FdA) : Prop := x.nm.length < 9223372036854775808 ∧ gD x.ty
theorem ai9 {H : Type} {enc : TypeId × Value → H} {W : World} {spare : Nat → Bool} {held : Bool} {m : Nat} {cs : List Value} {x : DataW H × List MemPlace} (h : DataW.trod enc Tryd.prog W 0 spare held m 94 cs = some x) : ∃ a : FdA, a.In ∧ sP W a.av cs := by
  obtain ⟨hlen, m2, fld⟩ := eV aai (by simp) a6K h
  obtain ⟨c0, c1, rfl⟩ := ag5 hlen
  obtain ⟨y0, h0⟩ := fld 0 _ _ rfl
  simp only [a6z, List.drop_zero, List.take_succ_cons, List.take_zero] at h0
  obtain ⟨v0, g0, r0⟩ := oE qv h0
  obtain ⟨y1, h1⟩ := fld 1 _ _ rfl
  simp only [Y9, gx] at h1
  obtain ⟨v1, g1, r1⟩ := dF gu h1
  exact ⟨⟨v0, v1⟩, ⟨g0, g1⟩, (bR r0 (bR r1 pw))⟩
theorem yi : Tryd.prog.underlying 5 = some (.int .u8) := by kernel_rfl
theorem xX : Tryd.prog.cellsOf 5 = 1 := by kernel_rfl
theorem acj : (Tryd.prog.underlying 75).map (fun d => match d with | .struct fs => fs.toList.map (fun f => (f.type, f.offset)) | _ => []) = some [(5, 0), (3, 1), (3, 2), (3, 3)] := by kernel_rfl
theorem a6I : Tryd.prog.cellsOf 75 = 4 := by kernel_rfl
structure a0B where
  op : Nat
  a : Int
  b : Int
  c : Int
noncomputable def a0B.av (x : a0B) : List AV := [B8 x.op, I x.a, I x.b, I x.c]
def a0B.In (x : a0B) : Prop := x.op < 256 ∧ gD x.a ∧ gD x.b ∧ gD x.c
theorem afp {H : Type} {enc : TypeId × Value → H} {W : World} {spare : Nat → Bool} {held : Bool} {m : Nat} {cs : List Value} {x : DataW H × List MemPlace} (h : DataW.trod enc Tryd.prog W 0 spare held m 75 cs = some x) : ∃ a : a0B, a.In ∧ sP W a.av cs := by
  obtain ⟨hlen, m2, fld⟩ := eV acj (by simp) a6I h
  obtain ⟨c0, c1, c2, c3, rfl⟩ := agU hlen
  obtain ⟨y0, h0⟩ := fld 0 _ _ rfl
  simp only [xX, List.drop_zero, List.take_succ_cons, List.take_zero] at h0
  obtain ⟨v0, g0, r0⟩ := sj yi h0
  obtain ⟨y1, h1⟩ := fld 1 _ _ rfl
  simp only [Y9, gx] at h1
  obtain ⟨v1, g1, r1⟩ := dF gu h1
  obtain ⟨y2, h2⟩ := fld 2 _ _ rfl
  simp only [Y9, gx] at h2
  obtain ⟨v2, g2, r2⟩ := dF gu h2
  obtain ⟨y3, h3⟩ := fld 3 _ _ rfl
  simp only [Y9, gx] at h3
  obtain ⟨v3, g3, r3⟩ := dF gu h3
  exact ⟨⟨v0, v1, v2, v3⟩, ⟨g0, g1, g2, g3⟩, (bR r0 (bR r1 (bR r2 (bR r3 pw))))⟩
theorem acr : Tryd.prog.underlying 115 = some (.int .u64) := by kernel_rfl
theorem aah : Tryd.prog.cellsOf 115 = 1 := by kernel_rfl
theorem a9c : (Tryd.prog.underlying 156).map (fun d => match d with | .struct fs => fs.toList.map (fun f => (f.type, f.offset)) | _ => []) = some [(3, 0), (115, 1)] := by kernel_rfl
theorem yc : Tryd.prog.cellsOf 156 = 2 := by kernel_rfl
structure RnA where
  f : Int
noncomputable def RnA.av (x : RnA) : List AV := [I x.f, .uu]
def RnA.In (x : RnA) : Prop := gD x.f
theorem aae {H : Type} {enc : TypeId × Value → H} {W : World} {spare : Nat → Bool} {held : Bool} {m : Nat} {cs : List Value} {x : DataW H × List MemPlace} (h : DataW.trod enc Tryd.prog W 0 spare held m 156 cs = some x) : ∃ a : RnA, a.In ∧ sP W a.av cs := by
  obtain ⟨hlen, m2, fld⟩ := eV a9c (by simp) yc h
  obtain ⟨c0, c1, rfl⟩ := ag5 hlen
  obtain ⟨y0, h0⟩ := fld 0 _ _ rfl
  simp only [gx, List.drop_zero, List.take_succ_cons, List.take_zero] at h0
  obtain ⟨v0, g0, r0⟩ := dF gu h0
  obtain ⟨y1, h1⟩ := fld 1 _ _ rfl
  simp only [Y9, aah] at h1
  have r1 := open_int acr h1
  exact ⟨⟨v0⟩, g0, (bR r0 (bR r1 pw))⟩
theorem a7l : Tryd.prog.underlying 54 = some (.slice 94) := by kernel_rfl
theorem a6S : Tryd.prog.cellsOf 54 = 1 := by kernel_rfl
theorem a8U : (Tryd.prog.underlying 154).map (fun d => match d with | .struct fs => fs.toList.map (fun f => (f.type, f.offset)) | _ => []) = some [(5, 0), (3, 1), (3, 2), (54, 3)] := by kernel_rfl
theorem a3O : Tryd.prog.cellsOf 154 = 4 := by kernel_rfl
structure TyA where
  k : Nat
  e : Int
  l : Int
noncomputable def TyA.av (x : TyA) : List AV := [B8 x.k, I x.e, I x.l, .uu]
def TyA.In (x : TyA) : Prop := x.k < 256 ∧ gD x.e ∧ gD x.l
theorem aiS {H : Type} {enc : TypeId × Value → H} {W : World} {spare : Nat → Bool} {held : Bool} {m : Nat} {cs : List Value} {x : DataW H × List MemPlace} (h : DataW.trod enc Tryd.prog W 0 spare held m 154 cs = some x) : ∃ a : TyA, a.In ∧ sP W a.av cs := by
  obtain ⟨hlen, m2, fld⟩ := eV a8U (by simp) a3O h
  obtain ⟨c0, c1, c2, c3, rfl⟩ := agU hlen
  obtain ⟨y0, h0⟩ := fld 0 _ _ rfl
  simp only [xX, List.drop_zero, List.take_succ_cons, List.take_zero] at h0
  obtain ⟨v0, g0, r0⟩ := sj yi h0
  obtain ⟨y1, h1⟩ := fld 1 _ _ rfl
  simp only [Y9, gx] at h1
  obtain ⟨v1, g1, r1⟩ := dF gu h1
  obtain ⟨y2, h2⟩ := fld 2 _ _ rfl
  simp only [Y9, gx] at h2
  obtain ⟨v2, g2, r2⟩ := dF gu h2
  obtain ⟨y3, h3⟩ := fld 3 _ _ rfl
  simp only [Y9, a6S] at h3
  have r3 := yG a7l h3
  exact ⟨⟨v0, v1, v2⟩, ⟨g0, g1, g2⟩, (bR r0 (bR r1 (bR r2 (bR r3 pw))))⟩
structure SgA where
  s : List UInt8
noncomputable def SgA.av (x : SgA) : List AV := [S x.s]
def SgA.In (x : SgA) : Prop := x.s.length < 9223372036854775808
theorem aj3 {H : Type} {enc : TypeId × Value → H} {W : World} {spare : Nat → Bool} {held : Bool} {m : Nat} {cs : List Value} {x : DataW H × List MemPlace} (h : DataW.trod enc Tryd.prog W 0 spare held m 9 cs = some x) : ∃ a : SgA, a.In ∧ sP W a.av cs := by
  obtain ⟨v, g, r⟩ := oE qv h
  exact ⟨⟨v⟩, g, r⟩
theorem aex : Tryd.prog.underlying 55 = some (.slice 75) := by kernel_rfl
theorem afS : Tryd.prog.cellsOf 55 = 1 := by kernel_rfl
theorem a7W : Tryd.prog.underlying 56 = some (.slice 156) := by kernel_rfl
theorem a7r : Tryd.prog.cellsOf 56 = 1 := by kernel_rfl
theorem aaH : (Tryd.prog.underlying 58).map (fun d => match d with | .struct fs => fs.toList.map (fun f => (f.type, f.offset)) | _ => []) = some [(9, 0), (3, 1), (3, 2), (54, 3), (55, 4), (56, 5), (56, 6)] := by kernel_rfl
theorem a8w : Tryd.prog.cellsOf 58 = 7 := by kernel_rfl
structure FuA where
  nm : List UInt8
  pa : Int
  re : Int
  sl : AV
  slN : Nat
  slT : Row
  vl : Nat → FdA
  cd : AV
  cdN : Nat
  cdT : Row
  cdF : Nat → a0B
  sz : AV
  lv : AV
noncomputable def FuA.av (x : FuA) : List AV := [S x.nm, I x.pa, I x.re, x.sl, x.cd, x.sz, x.lv]
def FuA.In (x : FuA) : Prop := x.nm.length < 9223372036854775808 ∧ gD x.pa ∧ gD x.re ∧ (SlV 2 x.sl x.slN x.slT ∧ (dV 2 x.slN x.slT fun i => (x.vl i).av) ∧ ∀ i, i < x.slN → (x.vl i).In) ∧ (SlV 4 x.cd x.cdN x.cdT ∧ (dV 4 x.cdN x.cdT fun i => (x.cdF i).av) ∧ ∀ i, i < x.cdN → (x.cdF i).In) ∧ (∃ n t, SlV 2 x.sz n t) ∧ (∃ n t, SlV 2 x.lv n t)
theorem ahy {H : Type} {enc : TypeId × Value → H} {W : World} {spare : Nat → Bool} {held : Bool} {m : Nat} {cs : List Value} {x : DataW H × List MemPlace} (h : DataW.trod enc Tryd.prog W 0 spare held m 58 cs = some x) : ∃ a : FuA, a.In ∧ sP W a.av cs := by
  obtain ⟨hlen, m2, fld⟩ := eV aaH (by simp) a8w h
  obtain ⟨c0, c1, c2, c3, c4, c5, c6, rfl⟩ := agu hlen
  obtain ⟨y0, h0⟩ := fld 0 _ _ rfl
  simp only [a6z, List.drop_zero, List.take_succ_cons, List.take_zero] at h0
  obtain ⟨v0, g0, r0⟩ := oE qv h0
  obtain ⟨y1, h1⟩ := fld 1 _ _ rfl
  simp only [Y9, gx] at h1
  obtain ⟨v1, g1, r1⟩ := dF gu h1
  obtain ⟨y2, h2⟩ := fld 2 _ _ rfl
  simp only [Y9, gx] at h2
  obtain ⟨v2, g2, r2⟩ := dF gu h2
  obtain ⟨y3, h3⟩ := fld 3 _ _ rfl
  simp only [Y9, a6S] at h3
  obtain ⟨f3, n3, s3, t3, a3, b3, d3, r3⟩ := fV (α := FdA) ⟨[], 0⟩ (av := FdA.av) (In := FdA.In) a7l a6K (by decide) (fun _ => rfl) (fun m cs x h => ai9 h) h3
  obtain ⟨y4, h4⟩ := fld 4 _ _ rfl
  simp only [Y9, afS] at h4
  obtain ⟨f4, n4, s4, t4, a4, b4, d4, r4⟩ := fV (α := a0B) ⟨0, 0, 0, 0⟩ (av := a0B.av) (In := a0B.In) aex a6I (by decide) (fun _ => rfl) (fun m cs x h => afp h) h4
  obtain ⟨y5, h5⟩ := fld 5 _ _ rfl
  simp only [Y9, a7r] at h5
  obtain ⟨f5, n5, s5, t5, a5, b5, d5, r5⟩ := fV (α := RnA) ⟨0⟩ (av := RnA.av) (In := RnA.In) a7W yc (by decide) (fun _ => rfl) (fun m cs x h => aae h) h5
  obtain ⟨y6, h6⟩ := fld 6 _ _ rfl
  simp only [Y9, a7r] at h6
  obtain ⟨f6, n6, s6, t6, a6, b6, d6, r6⟩ := fV (α := RnA) ⟨0⟩ (av := RnA.av) (In := RnA.In) a7W yc (by decide) (fun _ => rfl) (fun m cs x h => aae h) h6
  exact ⟨⟨v0, v1, v2, s3, n3, t3, f3, s4, n4, t4, f4, s5, s6⟩, ⟨g0, g1, g2, ⟨a3, b3 (by decide), d3⟩, ⟨a4, b4 (by decide), d4⟩, ⟨n5, t5, a5⟩, ⟨n6, t6, a6⟩⟩, (bR r0 (bR r1 (bR r2 (bR r3 (bR r4 (bR r5 (bR r6 pw)))))))⟩
theorem aei : Tryd.prog.underlying 22 = some (.slice 154) := by kernel_rfl
theorem aeJ : Tryd.prog.cellsOf 22 = 1 := by kernel_rfl
theorem ag0 : Tryd.prog.underlying 23 = some (.slice 9) := by kernel_rfl
theorem afo : Tryd.prog.cellsOf 23 = 1 := by kernel_rfl
theorem afT : Tryd.prog.underlying 24 = some (.slice 58) := by kernel_rfl
theorem ae7 : Tryd.prog.cellsOf 24 = 1 := by kernel_rfl
theorem acz : (Tryd.prog.underlying 26).map (fun d => match d with | .struct fs => fs.toList.map (fun f => (f.type, f.offset)) | _ => []) = some [(22, 0), (23, 1), (24, 2)] := by kernel_rfl
theorem aeT : Tryd.prog.cellsOf 26 = 3 := by kernel_rfl
structure ImA where
  ty : AV
  tx : AV
  fs : AV
  fsN : Nat
  fsT : Row
  fsF : Nat → FuA
noncomputable def ImA.av (x : ImA) : List AV := [x.ty, x.tx, x.fs]
def ImA.In (x : ImA) : Prop := (∃ n t, SlV 4 x.ty n t) ∧ (∃ n t, SlV 1 x.tx n t) ∧ (SlV 7 x.fs x.fsN x.fsT ∧ (dV 7 x.fsN x.fsT fun i => (x.fsF i).av) ∧ ∀ i, i < x.fsN → (x.fsF i).In)
theorem aie {H : Type} {enc : TypeId × Value → H} {W : World} {spare : Nat → Bool} {held : Bool} {m : Nat} {cs : List Value} {x : DataW H × List MemPlace} (h : DataW.trod enc Tryd.prog W 0 spare held m 26 cs = some x) : ∃ a : ImA, a.In ∧ sP W a.av cs := by
  obtain ⟨hlen, m2, fld⟩ := eV acz (by simp) aeT h
  obtain ⟨c0, c1, c2, rfl⟩ := agN hlen
  obtain ⟨y0, h0⟩ := fld 0 _ _ rfl
  simp only [aeJ, List.drop_zero, List.take_succ_cons, List.take_zero] at h0
  obtain ⟨f0, n0, s0, t0, a0, b0, d0, r0⟩ := fV (α := TyA) ⟨0, 0, 0⟩ (av := TyA.av) (In := TyA.In) aei a3O (by decide) (fun _ => rfl) (fun m cs x h => aiS h) h0
  obtain ⟨y1, h1⟩ := fld 1 _ _ rfl
  simp only [Y9, afo] at h1
  obtain ⟨f1, n1, s1, t1, a1, b1, d1, r1⟩ := fV (α := SgA) ⟨[]⟩ (av := SgA.av) (In := SgA.In) ag0 a6z (by decide) (fun _ => rfl) (fun m cs x h => aj3 h) h1
  obtain ⟨y2, h2⟩ := fld 2 _ _ rfl
  simp only [Y9, ae7] at h2
  obtain ⟨f2, n2, s2, t2, a2, b2, d2, r2⟩ := fV (α := FuA) ⟨[], 0, 0, .uu, 0, .lf, fun _ => ⟨[], 0⟩, .uu, 0, .lf, fun _ => ⟨0, 0, 0, 0⟩, .uu, .uu⟩ (av := FuA.av) (In := FuA.In) afT a8w (by decide) (fun _ => rfl) (fun m cs x h => ahy h) h2
  exact ⟨⟨s0, s1, s2, n2, t2, f2⟩, ⟨⟨n0, t0, a0⟩, ⟨n1, t1, a1⟩, ⟨a2, b2 (by decide), d2⟩⟩, (bR r0 (bR r1 (bR r2 pw)))⟩
theorem abk : (Tryd.prog.underlying 28).map (fun d => match d with | .struct fs => fs.toList.map (fun f => (f.type, f.offset)) | _ => []) = some [(3, 0), (3, 1), (3, 2), (3, 3), (5, 4), (3, 5), (5, 6)] := by kernel_rfl
theorem a6X : Tryd.prog.cellsOf 28 = 7 := by kernel_rfl
structure MaA where
  step : Int
  g : Int
  f : Int
  at_ : Int
  op : Nat
  fr : Int
  out : Nat
noncomputable def MaA.av (x : MaA) : List AV := [I x.step, I x.g, I x.f, I x.at_, B8 x.op, I x.fr, B8 x.out]
def MaA.In (x : MaA) : Prop := gD x.step ∧ gD x.g ∧ gD x.f ∧ gD x.at_ ∧ x.op < 256 ∧ gD x.fr ∧ x.out < 256
theorem aaz {H : Type} {enc : TypeId × Value → H} {W : World} {spare : Nat → Bool} {held : Bool} {m : Nat} {cs : List Value} {x : DataW H × List MemPlace} (h : DataW.trod enc Tryd.prog W 0 spare held m 28 cs = some x) : ∃ a : MaA, a.In ∧ sP W a.av cs := by
  obtain ⟨hlen, m2, fld⟩ := eV abk (by simp) a6X h
  obtain ⟨c0, c1, c2, c3, c4, c5, c6, rfl⟩ := agu hlen
  obtain ⟨y0, h0⟩ := fld 0 _ _ rfl
  simp only [gx, List.drop_zero, List.take_succ_cons, List.take_zero] at h0
  obtain ⟨v0, g0, r0⟩ := dF gu h0
  obtain ⟨y1, h1⟩ := fld 1 _ _ rfl
  simp only [Y9, gx] at h1
  obtain ⟨v1, g1, r1⟩ := dF gu h1
  obtain ⟨y2, h2⟩ := fld 2 _ _ rfl
  simp only [Y9, gx] at h2
  obtain ⟨v2, g2, r2⟩ := dF gu h2
  obtain ⟨y3, h3⟩ := fld 3 _ _ rfl
  simp only [Y9, gx] at h3
  obtain ⟨v3, g3, r3⟩ := dF gu h3
  obtain ⟨y4, h4⟩ := fld 4 _ _ rfl
  simp only [Y9, xX] at h4
  obtain ⟨v4, g4, r4⟩ := sj yi h4
  obtain ⟨y5, h5⟩ := fld 5 _ _ rfl
  simp only [Y9, gx] at h5
  obtain ⟨v5, g5, r5⟩ := dF gu h5
  obtain ⟨y6, h6⟩ := fld 6 _ _ rfl
  simp only [Y9, xX] at h6
  obtain ⟨v6, g6, r6⟩ := sj yi h6
  exact ⟨⟨v0, v1, v2, v3, v4, v5, v6⟩, ⟨g0, g1, g2, g3, g4, g5, g6⟩, (bR r0 (bR r1 (bR r2 (bR r3 (bR r4 (bR r5 (bR r6 pw)))))))⟩
theorem aaV : (Tryd.prog.underlying 31).map (fun d => match d with | .struct fs => fs.toList.map (fun f => (f.type, f.offset)) | _ => []) = some [(5, 0), (3, 1), (3, 2)] := by kernel_rfl
theorem aeH : Tryd.prog.cellsOf 31 = 3 := by kernel_rfl
structure EdA where
  out : Nat
  fl : Int
  us : Int
noncomputable def EdA.av (x : EdA) : List AV := [B8 x.out, I x.fl, I x.us]
def EdA.In (x : EdA) : Prop := x.out < 256 ∧ gD x.fl ∧ gD x.us
theorem ajs {H : Type} {enc : TypeId × Value → H} {W : World} {spare : Nat → Bool} {held : Bool} {m : Nat} {cs : List Value} {x : DataW H × List MemPlace} (h : DataW.trod enc Tryd.prog W 0 spare held m 31 cs = some x) : ∃ a : EdA, a.In ∧ sP W a.av cs := by
  obtain ⟨hlen, m2, fld⟩ := eV aaV (by simp) aeH h
  obtain ⟨c0, c1, c2, rfl⟩ := agN hlen
  obtain ⟨y0, h0⟩ := fld 0 _ _ rfl
  simp only [xX, List.drop_zero, List.take_succ_cons, List.take_zero] at h0
  obtain ⟨v0, g0, r0⟩ := sj yi h0
  obtain ⟨y1, h1⟩ := fld 1 _ _ rfl
  simp only [Y9, gx] at h1
  obtain ⟨v1, g1, r1⟩ := dF gu h1
  obtain ⟨y2, h2⟩ := fld 2 _ _ rfl
  simp only [Y9, gx] at h2
  obtain ⟨v2, g2, r2⟩ := dF gu h2
  exact ⟨⟨v0, v1, v2⟩, ⟨g0, g1, g2⟩, (bR r0 (bR r1 (bR r2 pw)))⟩
end Go.Proofs.YtbamejikafhenaaDoor.Tz
namespace Go.Proofs.YtbamejikafhenaaDoor.Ev
theorem a0Y {α : Type} (d : α) : ∀ (n : Nat) (t : Tr α) (i : Nat) (k : Tr α → aa), i + 1 < 2 ^ n → t.get d i ≠ d → (sk d n).f t i (t.get d i) k = k t
  | 0, t, i, k, h, _ => absurd h (by simp)
  | n + 1, .lf, i, k, h, hne => absurd (qg d i) hne
  | n + 1, .nd v l r, 0, k, h, _ => rfl
  | n + 1, .nd v l r, j + 1, k, h, hne => by
    have hlt : j / 2 + 1 < 2 ^ n := by have : 2 ^ (n + 1) = 2 * 2 ^ n := by rw [Nat.pow_succ, Nat.mul_comm]
                                       omega
    have e : ∀ x, (sk d (n + 1)).f (.nd v l r) (j + 1) x k = (Nat.rec (motive := fun _ => aa) ((sk d n).f l (Nat.div j 2) x fun l' => k (.nd v l' r)) (fun _ _ => (sk d n).f r (Nat.div j 2) x fun r' => k (.nd v l r')) (j % 2) : aa) := fun _ => rfl
    rw [jh] at hne ⊢
    rw [e]
    rcases vj j with hj | hj
    · rw [if_pos hj] at hne ⊢
      rw [hj]
      exact a0Y d n l (j / 2) _ hlt hne
    · rw [if_neg (by omega)] at hne ⊢
      rw [hj]
      exact a0Y d n r (j / 2) _ hlt hne
theorem a8N {α : Type} {d : α} {t : Tr α} {i : Nat} (h : i < 16777215) (hne : t.get d i ≠ d) (K : Tr α → bX → aa) (hK : ∀ a b, K a .dead = K b .dead → a = b) : dB d t i (t.get d i) = t := by
  have e := (ke (d := d) (t := t) (i := i) (x := t.get d i) h fun t => K t .dead).symm.trans (a0Y d 24 t i (fun t => K t .dead) (by omega) hne)
  exact hK _ _ e
theorem wJ {t : Tr bX} {i : Nat} (h : i < 16777215) (hne : t.get .dead i ≠ .dead) : dB .dead t i (t.get .dead i) = t :=
  a8N h hne (fun t _ => .val (.int 0 0) ⟨t, 0, [], 0⟩) fun a b e => by
    injection e with _ e2
    injection e2
def uA (B : bX) : Prop := match B with
  | .row .. => True
  | _ => False
theorem afv {h : Hp} {b : Nat} {B : bX} (hb : b < 16777215) (hB : h.at b = B) (hr : uA B) : h.dS b B = h := by
  obtain ⟨t, nx, pr, rb⟩ := h
  have e : dB .dead t b (t.get .dead b) = t := wJ hb (by
    intro h0
    have : (.dead : bX) = B := h0.symm.trans hB
    rw [← this] at hr; exact hr)
  have hB' : t.get .dead b = B := hB
  show (⟨dB .dead t b B, nx, pr, rb⟩ : Hp) = _
  rw [← hB', e]
theorem ql {hp : Hp} {q : List Nat} {k : Hp → aa} : ∀ (pl : List Nat), (∀ b ∈ pl, b < 16777215 ∧ uA (hp.at b)) → gp mem hp pl (hp.pro q) k = k (hp.pro q)
  | [], _ => rfl
  | b :: l, h => by
    have hb := h b (by simp)
    have hr := hb.2
    generalize hB : hp.at b = B at hr
    cases B with
    | row r1 f1 z1 s1 t1 =>
      rw [a9q hb.1 hB (show (hp.pro q).at b = .row r1 f1 z1 s1 t1 from hB), afv hb.1 (show (hp.pro q).at b = .row r1 f1 z1 s1 t1 from hB) hr]
      exact ql l fun b hb => h b (by simp [hb])
    | _ => exact absurd hr id
def sO (hp : Hp) (l : List ((AV → aa) → aa)) : Prop := ∃ pl, (∀ acc k, lZ l acc k = k (pl ++ acc)) ∧ ∀ b ∈ pl, b < 16777215 ∧ uA (hp.at b)
theorem ai {hp : Hp} : sO hp [] := ⟨[], fun _ _ => rfl, fun b hb => absurd hb (by simp)⟩
theorem ah {hp : Hp} {b o : Nat} {l : List ((AV → aa) → aa)} (hb : b < 16777215) (hr : uA (hp.at b)) (h : sO hp l) : sO hp ((fun k => k (.ptr b o)) :: l) := by
  obtain ⟨pl, h1, h2⟩ := h
  refine ⟨pl ++ [b], fun acc k => ?_, fun c hc => ?_⟩
  · show lZ l (b :: acc) k = _
    rw [h1, List.append_assoc]; rfl
  · rcases List.mem_append.1 hc with h | h
    · exact h2 c h
    · have : c = b := by simpa using h
      subst this; exact ⟨hb, hr⟩
theorem ab {hp : Hp} {t : Row} {a b c : Nat} {l : List ((AV → aa) → aa)} (h : sO hp l) : sO hp ((fun k => k (.x 1 t a b c)) :: l) := h
theorem aj {hp : Hp} {s : List UInt8} {l : List ((AV → aa) → aa)} (h : sO hp l) : sO hp ((fun k => k (S s)) :: l) := h
theorem a2V {p : Bool} {l : List AV} : uA (Bx p l) = True := nd rfl
theorem a3k {l : List ((AV → aa) → aa)} {hp : Hp} {v : AV} {K : Hp → AV → aa} (h : sO hp l) : cO mem [] l hp (fun h => .val v h) K = K hp v := by
  obtain ⟨pl, h1, h2⟩ := h
  rw [adq, h1, List.append_nil]
  rw [a9b, ql pl h2]
  exact a4r (Nat.le_refl _)
theorem bO {M : Mem} {A A' : List Nat} {l l' : List ((AV → aa) → aa)} {hp : Hp} {b b' : Hp → aa} {K : Hp → AV → aa} (h : mk A = A') (hl : l = l') (hb : ∀ h, b h = b' h) : cO M A l hp b K = cO M A' l' hp b' K := by
  rw [mk_eq] at h
  rw [h, hl, show b = b' from funext hb]
end Go.Proofs.YtbamejikafhenaaDoor.Ev
namespace Go.Proofs.YtbamejikafhenaaDoor.Ev
theorem acY {a b : Nat} {k : AV → aa} (h : b ≤ a ∧ a < 18446744073709551616) : (ae .sub 7).f (U a) (U b) k = k (U (a - b)) := sub_U h.1 h.2
theorem ach {a b : Nat} {k : AV → aa} (h : b ≠ 0 ∧ a < 18446744073709551616) : (ae .quo 7).f (U a) (U b) k = k (U (a / b)) := aat h.1 h.2
theorem aaE {a b : Nat} {k : AV → aa} (h : a + b < 18446744073709551616) : (ae .add 7).f (U a) (U b) k = k (U (a + b)) := by rw [a81, Nat.mod_eq_of_lt h]
theorem abu {a b : Nat} {k : AV → aa} (h : a * b < 18446744073709551616) : (ae .mul 7).f (U a) (U b) k = k (U (a * b)) := by rw [mul_U, Nat.mod_eq_of_lt h]
theorem agC {z : Int} {k : AV → aa} (h : 0 ≤ z ∧ z < 18446744073709551616) : bu 7 (rF (md 3) (hf 3) 18446744073709551616 (z % 18446744073709551616).toNat) k = k (U z.toNat) := by
  have e : bu 7 (rF (md 3) (hf 3) 18446744073709551616 (z % 18446744073709551616).toNat) k = _ := qZ (z := z) (k := k)
  rw [e]; congr 2; omega
theorem agQ {n : Nat} {k : AV → aa} : bu 3 (rF (md 7) (hf 7) 18446744073709551616 n) k = k (I (n : Int)) := aeq (n := n) (k := k)
theorem zy {a : List UInt8} {j : Nat} {k : AV → aa} (hj : j ≤ a.length) : dj (S a) .none (.some (U j)) k = k (S (a.take j)) := by
  show gY (U j) a.length (fun h => tM (Nat.mod (Nat.div (aL a) (Nat.pow 256 0)) (Nat.pow 256 (Nat.sub h 0))) (Nat.sub h 0) k) = _
  rw [acM hj, a2H (by omega) (by omega), List.drop_zero]
theorem a0w {a : List UInt8} {i : Int} {k : AV → aa} (h : (0 ≤ i ∧ i ≤ a.length) ∧ a.length < 9223372036854775808) : dj (S a) (.some (I i)) .none k = k (S (a.drop i.toNat)) := a4S h.1.1 h.1.2 h.2
theorem a0n {a : List UInt8} {i : Int} {k : AV → aa} (h : (0 ≤ i ∧ i ≤ a.length) ∧ a.length < 9223372036854775808) : dj (S a) .none (.some (I i)) k = k (S (a.take i.toNat)) := a6A h.1.1 h.1.2 h.2
theorem a01 {a : List UInt8} {i j : Int} {k : AV → aa} (h : (0 ≤ i ∧ i ≤ j) ∧ j ≤ a.length ∧ a.length < 9223372036854775808) : dj (S a) (.some (I i)) (.some (I j)) k = k (S ((a.take j.toNat).drop i.toNat)) := a1m h.1.1 h.1.2 h.2.1 h.2.2
theorem a8q {b o : Nat} {k : AV → aa} : oL (.ptr b o) k = k (.ptr b o) := rfl
theorem ad7 {z : Int} {k : AV → aa} : bu 3 (Nat.mod (Nat.sub (md 3) (z % 18446744073709551616).toNat) (md 3)) k = k (I (-z)) := agA (z := z) (k := k)
theorem acV {n : Nat} {k : AV → aa} : bu 7 (Nat.mod (Nat.sub (md 7) n) (md 7)) k = k (U ((18446744073709551616 - n) % 18446744073709551616)) := agp (n := n) (k := k)
theorem gd_u {w : Bool} {hp : Hp} {s : (AV → Hp → aa) → aa} {k : AV → Hp → aa} : gd dw w hp s k = k dw hp := rfl
theorem mP {x y : aa} : when true x y = x := nd rfl
theorem nf {x y : aa} : when false x y = y := nd rfl
end Go.Proofs.YtbamejikafhenaaDoor.Ev
namespace Go.Proofs.YtbamejikafhenaaDoor.Tz
set_option linter.defProp false
def Y1 := And.intro @mk_eq (And.intro @Int.cast_ofNat_Int (And.intro @ace (And.intro @adl (And.intro @acL (And.intro @aiR (And.intro @agO (And.intro @agT (And.intro @ah4 (And.intro @ah0 (And.intro @a3F (And.intro @a0e (And.intro @Bool.not_true (And.intro @Bool.not_false (And.intro @box_m (And.intro @List.length_cons.{0} (And.intro @List.length_nil.{0} (And.intro @fa (And.intro @load1 (And.intro @aba (And.intro @ajd (And.intro @a65 (And.intro @aiA (And.intro @ajy (And.intro @List.getD_cons_zero.{0} (And.intro @List.getD_cons_succ.{0} (And.intro @a8S (And.intro @cZ (And.intro @eu (And.intro @te (And.intro @pr_e (And.intro @a1E (And.intro @a14 (And.intro @ad0 (And.intro @abV (And.intro @a6p (And.intro @a6i (And.intro @mZ (And.intro @a8X (And.intro @lit4 (And.intro @lit7 (And.intro @a8p (And.intro @lit3 (And.intro @lX (And.intro @ai1 (And.intro @a1g (And.intro @aih (And.intro @ahD (And.intro @acq (And.intro @ade (And.intro @abr (And.intro @aav (And.intro @gd_pt (And.intro @gd_pf (And.intro @gd_nt (And.intro @gd_nf (And.intro @a1R (And.intro @a1z (And.intro @ael (And.intro @aeL (And.intro @afO (And.intro @ahv (And.intro @ext0 (And.intro @ext1 (And.intro @ext2 (And.intro @decide_true (And.intro @decide_false (And.intro @if_true.{1} (And.intro @if_false.{1} (And.intro @List.set_cons_zero.{0} (And.intro @List.set_cons_succ.{0} (And.intro @Nat.zero_add (And.intro @Nat.add_zero (And.intro @a7d (And.intro @a6W (And.intro @aeO (And.intro @ajq (And.intro @Bool.true_eq_false (And.intro @Bool.false_eq_true (And.intro @fax (And.intro @a3k (And.intro @ah6 (And.intro @a7O (And.intro @afK (And.intro @aiX (And.intro @byteK (And.intro @digK (And.intro @idx_B (And.intro @ahT (And.intro @ai5 (And.intro @aep (And.intro @add_B (And.intro @neq_B (And.intro @aiN (And.intro @aiw (And.intro @len_nil (And.intro @Int.toNat_natCast (And.intro @wy (And.intro @eql_S (And.intro @neq_S (And.intro @geq_B (And.intro @leq_B (And.intro @eql_B (And.intro @lss_B (And.intro @gtr_B (And.intro @a6Y (And.intro @ags (And.intro @aj0 (And.intro @ajp (And.intro @aj1 (And.intro @aiE (And.intro @ahF (And.intro @aiW (And.intro @agM (And.intro @lss_U (And.intro @gtr_U (@agv))))))))))))))))))))))))))))))))))))))))))))))))))))))))))))))))))))))))))))))))))))))))))))))))))))))))))))))))))))
def Y6 := And.intro @bx (And.intro @br (And.intro @gd_u (And.intro @acY (And.intro @ach (And.intro @aaE (And.intro @abu (And.intro @agC (And.intro @agQ (And.intro @zy (And.intro @a0w (And.intro @a0n (And.intro @a01 (And.intro @a8q (And.intro @ad7 (@acV)))))))))))))))
def Y8 := And.intro @mZ (And.intro @bx (And.intro @br (And.intro @a2V (And.intro @Nat.zero_add (And.intro @if_true.{1} (@if_false.{1}))))))
end Go.Proofs.YtbamejikafhenaaDoor.Tz
namespace Go.Proofs.YtbamejikafhenaaDoor.Ev
def yF (p : Bool) (v : AV) : bX := .row true p 1 1 (.nd v .lf .lf)
section
variable {M : Mem} (ok : oK M) {h : Hp} {b : Nat} {p : Bool} {v w : AV}
include ok
theorem aji {z : Nat} (hv : One v) (hb : h.nx < 16777215) (k : AV → Hp → aa) : cF M (aY M) v z 1 h k = k (.ptr h.nx 0) (h.add (yF v.pl v)) := by
  show when (Nat.beq 1 1) (lP v fun c p => (aY M).f h (.row true p 1 1 (.nd c .lf .lf)) fun id hp => k (.ptr id 0) hp) _ = _
  rw [cQ (cu 1), gU hv, je ok hb]
  rfl
theorem aiU (k : AV → aa) : ldC M (yF p v) 0 k = k v := by
  show ar (Nat.ble 1 1) (ar (Nat.beq 1 1) (when (Nat.beq 1 1) (M.rg.f (.nd v .lf .lf) 0 k) (M.rg.f (.nd v .lf .lf) (Nat.div 0 1) fun v => v.jq fun l n => (yD (Nat.mod 0 1)).f l k))) = _
  rw [aB (b := Nat.ble 1 1) rfl, aB (cu 1), cQ (cu 1), ok.rg (by decide)]; rfl
theorem aif (hb : b < 16777215) (hv : One w) (k : Hp → aa) : stC M 1 (yF p v) h b 0 w k = k (h.dS b (yF (bp p w.pl) w)) := by
  show ar (Nat.ble 1 1) (ar true (lP w fun c p' => when (Nat.beq 1 1) (M.rs.f (.nd v .lf .lf) 0 c fun t => h.put M b (.row true (bp p p') 1 1 t) k) _)) = _
  rw [aB (b := Nat.ble 1 1) rfl, aB rfl, gU hv, cQ (cu 1), ok.rs (by decide), gJ ok hb]
  have e : (dB (AV.uu) (.nd v .lf .lf) 0 w : Row) = .nd w .lf .lf := by
    have e1 : ∀ k : Row → aa, (sk AV.uu 24).f (.nd v .lf .lf) 0 w k = k (.nd w .lf .lf) := fun _ => rfl
    have e2 := fun k => (ke (d := AV.uu) (t := .nd v .lf .lf) (i := 0) (x := w) (by decide) k).symm.trans (e1 k)
    have e3 := e2 fun t => .val (.agg t 0) .empty
    injection e3 with e4
    injection e4
  rw [e]; rfl
end
theorem a5c {h : Hp} {v : AV} {z : Nat} (hv : One v) (hb : h.nx < 16777215) (k : AV → Hp → aa) : cF mem (aY mem) v z 1 h k = k (.ptr h.nx 0) (h.add (yF v.pl v)) := aji dD hv hb k
theorem a5U {p : Bool} {v : AV} (k : AV → aa) : ldC mem (yF p v) 0 k = k v := aiU dD k
theorem a4I {h : Hp} {b : Nat} {p : Bool} {v w : AV} (hb : b < 16777215) (hv : One w) (k : Hp → aa) : stC mem 1 (yF p v) h b 0 w k = k (h.dS b (yF (bp p w.pl) w)) := aif dD hb hv k
theorem jc {p : Bool} {v : AV} : uA (yF p v) = True := nd rfl
theorem a6w (l : List UInt8) : (S l).pl = true := nd rfl
theorem aN (l : List UInt8) : One (S l) := True.intro
theorem a3m {M : Mem} {F : bN} {b o : Nat} {r : Row} {hp h : Hp} {v : AV} (e : F.f (.nd (.ptr b o) .lf r) hp = .val v h) (k : AV → Hp → aa) : au M false F (.nd (.ptr b o) .lf r) hp k = k v ⟨h.t, h.nx, hp.pr, hp.rb⟩ := by
  show fe F (.nd (.ptr b o) .lf r) hp k = _
  unfold fe
  rw [e]
theorem a8O {F : bN} {b o : Nat} {r : Row} {hp h : Hp} {v : AV} (e : F.f (.nd (.ptr b o) .lf r) hp = .val v h) (k : AV → Hp → aa) : au mem false F (.nd (.ptr b o) .lf r) hp k = k v ⟨h.t, h.nx, hp.pr, hp.rb⟩ := a3m e k
theorem aeD {s : List UInt8} {clo : Nat} {hp : Hp} (h : s.length ≤ 4294967280) : (ixfF clo).f (.nd (S s) .lf (.nd (.x 3 .lf clo 0 0) .lf .lf)) hp = .val (I (ixN s)) hp := by
  show ar (Nat.beq 3 3) (ar (Nat.beq clo clo) (ar (Nat.beq 0 0) (ar (Nat.beq 0 0) (ar (Nat.ble s.length 4294967280) (.val (I (ixN (vz s.length (aL s)))) hp))))) = _
  rw [aB (cu 3), aB (cu clo), aB (cu 0), aB (cu 0), aB (dY h), fQ]
theorem lV (l : List UInt8) : bQ l ≤ l.length := by
  induction l with
  | nil => exact Nat.le_refl 0
  | cons c l ih =>
    show (Bool.rec (motive := fun _ => Nat) 0 (Nat.succ (bQ l)) (eR c) : Nat) ≤ l.length + 1
    cases eR c
    · exact Nat.zero_le _
    · exact Nat.succ_le_succ ih
theorem wu (l : List UInt8) : ixN l = if bQ l = l.length then -1 else (bQ l : Int) := by
  unfold ixN
  by_cases h : bQ l = l.length
  · rw [if_pos h, h, cu]
  · rw [if_neg h, jb h]
theorem a90 (c : Nat) : Still (.x 3 .lf c 0 0) := ⟨fun _ _ => rfl, fun _ _ _ _ => rfl⟩
end Go.Proofs.YtbamejikafhenaaDoor.Ev
namespace Go.Proofs.YtbamejikafhenaaDoor.Tz
set_option linter.defProp false
def Y4 := And.intro @mZ (And.intro @bx (And.intro @br (And.intro @cZ (And.intro @eu (And.intro @te (And.intro @a8S (And.intro @a6i (And.intro @a6p (And.intro @a2V (And.intro @jc (And.intro @Nat.zero_add (And.intro @if_true.{1} (@if_false.{1})))))))))))))
end Go.Proofs.YtbamejikafhenaaDoor.Tz
namespace Go.Proofs.YtbamejikafhenaaDoor.Ev
theorem a2G {M : Mem} (ok : oK M) {F : bN} {r : Row} {hp hc : Hp} {b o n s : Nat} {rw' : Bool} {t : Row} {v : AV} (hb : b < 16777215) (hat : hp.at b = .row rw' true 1 s t) (hm : o + n ≤ s) (hr : ∀ hp k, zl (pN M 24) r hp k = k r hp) (hv : ∀ hc hp b k, (imp M 24).f v hc hp b k = k v hc hp b) (e : F.f (.nd (.vs t o n 1) .lf r) .empty = .val v hc) (k : AV → Hp → aa) :
    au M false F (.nd (.ms b o n 1) .lf r) hp k = k v hp := by
  show fh M hp (.nd (.ms b o n 1) .lf r) (fun a ho => eX M F a hp ho k) (fe F (.nd (.ms b o n 1) .lf r) hp k) = _
  unfold fh
  have e1 : ∀ K : Row → Hp → aa, zl (pN M 24) (.nd (.ms b o n 1) .lf r) hp K = K (.nd (.vs t o n 1) .lf r) (hp.dS b (.row false true 1 s t)) := fun K => by
    show hp.use M b (o + n * 1) (fun _ fl x s t => ar (Nat.beq x 1) (ar (Nat.beq (o % 1) 0) (hp.put M b (.row false fl 1 s t) fun hp => when fl (aG (o / 1) fun e => zl (pN M 24) r hp fun r hp => K (.nd (.vs t e n 1) .lf r) hp) _))) = _
    rw [yd ok hb hat (by omega), aB (cu 1), aB (by rw [aF]; omega), gJ ok hb, cQ rfl, az, Nat.div_one, hr]
  rw [e1]
  show eX M F (.nd (.vs t o n 1) .lf r) hp (hp.dS b (.row false true 1 s t)) k = _
  unfold eX
  rw [e]
  show (imp M 24).f v hc hp false (fun v' _ hp' b => when b _ (k v' hp')) = _
  rw [hv]
  rfl
theorem zB {F : bN} {r : Row} {hp : Hp} {b o n s : Nat} {rw' : Bool} {t : Row} {v : AV} (hb : b < 16777215) (hat : hp.at b = .row rw' true 1 s t) (hm : o + n ≤ s) (hr : kK r) (hv : yx v) (e : db (F.f (.nd (.vs t o n 1) .lf r) .empty) = some v) (k : AV → Hp → aa) :
    au mem false F (.nd (.ms b o n 1) .lf r) hp k = k v hp := by
  obtain ⟨hc, e⟩ := sL e
  exact a2G dD hb hat hm (dA hr) hv e k
theorem wD {z : Int} {k : AV → aa} (h : 0 ≤ z ∧ z < 256) : bu 4 (rF (md 3) (hf 3) 256 (z % 18446744073709551616).toNat) k = k (B8 z.toNat) := by
  have e : rF (md 3) (hf 3) 256 (z % 18446744073709551616).toNat = (z % 18446744073709551616).toNat % 256 := xO (by rfl)
  rw [e, gy]
  show k (AV.int 4 _) = k (AV.int 4 _)
  congr 2; omega
theorem a2C {α : Type} (d : α) : ∀ (n : Nat) (t : Tr α) (i : Nat) (x y : α) (k : Tr α → aa), i + 1 < 2 ^ n → (sk d n).f t i x (fun t' => (sk d n).f t' i y k) = (sk d n).f t i y k
  | 0, t, i, x, y, k, h => absurd h (by simp)
  | n + 1, .lf, 0, x, y, k, h => rfl
  | n + 1, .nd v l r, 0, x, y, k, h => rfl
  | n + 1, .lf, j + 1, x, y, k, h => by
    have hlt : j / 2 + 1 < 2 ^ n := by have : 2 ^ (n + 1) = 2 * 2 ^ n := by rw [Nat.pow_succ, Nat.mul_comm]
                                       omega
    have e : ∀ x k, (sk d (n + 1)).f .lf (j + 1) x k = (Nat.rec (motive := fun _ => aa) ((sk d n).f .lf (Nat.div j 2) x fun l => k (.nd d l .lf)) (fun _ _ => (sk d n).f .lf (Nat.div j 2) x fun r => k (.nd d .lf r)) (j % 2) : aa) := fun _ _ => rfl
    have e2 : ∀ v l r x k, (sk d (n + 1)).f (.nd v l r) (j + 1) x k = (Nat.rec (motive := fun _ => aa) ((sk d n).f l (Nat.div j 2) x fun l' => k (.nd v l' r)) (fun _ _ => (sk d n).f r (Nat.div j 2) x fun r' => k (.nd v l r')) (j % 2) : aa) := fun _ _ _ _ _ => rfl
    rw [e, e]
    simp only [e2]
    rcases vj j with hj | hj
    · rw [hj]; exact a2C d n .lf (j / 2) x y (fun l => k (.nd d l .lf)) hlt
    · rw [hj]; exact a2C d n .lf (j / 2) x y (fun r => k (.nd d .lf r)) hlt
  | n + 1, .nd v l r, j + 1, x, y, k, h => by
    have hlt : j / 2 + 1 < 2 ^ n := by have : 2 ^ (n + 1) = 2 * 2 ^ n := by rw [Nat.pow_succ, Nat.mul_comm]
                                       omega
    have e2 : ∀ v l r x k, (sk d (n + 1)).f (.nd v l r) (j + 1) x k = (Nat.rec (motive := fun _ => aa) ((sk d n).f l (Nat.div j 2) x fun l' => k (.nd v l' r)) (fun _ _ => (sk d n).f r (Nat.div j 2) x fun r' => k (.nd v l r')) (j % 2) : aa) := fun _ _ _ _ _ => rfl
    rw [e2, e2]
    simp only [e2]
    rcases vj j with hj | hj
    · rw [hj]; exact a2C d n l (j / 2) x y (fun l' => k (.nd v l' r)) hlt
    · rw [hj]; exact a2C d n r (j / 2) x y (fun r' => k (.nd v l r')) hlt
theorem zw {t : Tr bX} {i : Nat} {x y : bX} (h : i < 16777215) : dB .dead (dB .dead t i x) i y = dB .dead t i y := by
  have e1 := a2C bX.dead 24 t i x y (fun t => .val (.int 0 0) ⟨t, 0, [], 0⟩) (by omega)
  rw [ke h, ke h, ke h] at e1
  injection e1 with _ e2
  injection e2
theorem a9o {i : Nat} {l : List ((AV → aa) → aa)} {hp : Hp} {v : AV} {K : Hp → AV → aa} (hi : hp.rb + i < 16777215) (hr : uA (hp.at (hp.rb + i))) (h : sO hp l) : cO mem [i] l hp (fun h => .val v h) K = K hp v := by
  obtain ⟨pl, h1, h2⟩ := h
  unfold cO
  rw [h1, List.append_nil]
  show aG (hp.rb + i) (fun b => hp.get mem b fun B => hp.put mem b .dead fun h1 => xG mem [(b, B)] (h1.a3L (pQ pl hp.pr)) fun h3 => gp mem hp pl h3 fun h4 => xt hp h4 v K) = _
  rw [az, get_at dD hi, gJ dD hi]
  show ((hp.dS (hp.rb + i) .dead).a3L (pQ pl hp.pr)).put mem (hp.rb + i) (hp.at (hp.rb + i)) (fun h3 => gp mem hp pl h3 fun h4 => xt hp h4 v K) = _
  rw [gJ dD hi]
  have e : ((hp.dS (hp.rb + i) .dead).a3L (pQ pl hp.pr)).dS (hp.rb + i) (hp.at (hp.rb + i)) = hp.pro (pQ pl hp.pr) := by
    obtain ⟨t, nx, pr, rb⟩ := hp
    show (⟨dB .dead (dB .dead t (rb + i) .dead) (rb + i) (t.get .dead (rb + i)), nx, pQ pl pr, rb⟩ : Hp) = ⟨t, nx, pQ pl pr, rb⟩
    rw [zw hi, wJ hi (by
      intro h0
      have hr' : uA (t.get .dead (rb + i)) := hr
      rw [h0] at hr'; exact hr')]
  rw [e, ql pl h2]
  exact a4r (Nat.le_refl _)
noncomputable def a7Y (hp : Hp) (r : aa) (K : Hp → AV → aa) : aa := aa.rec (motive := fun _ => aa) (fun _ _ => .fail) (fun _ _ _ => .fail) (fun _ _ => .fail) (fun v h4 => ar (Nat.ble hp.nx h4.nx) (K ⟨h4.t, h4.nx, hp.pr, hp.rb⟩ v)) .fail r
theorem adw {hp : Hp} {body : Hp → aa} {K : Hp → AV → aa} : cO mem [] [] hp body K = a7Y hp (body hp) K := by
  obtain ⟨t, nx, pr, rb⟩ := hp
  exact nd rfl
theorem a9a {hp h4 : Hp} {v : AV} {K : Hp → AV → aa} (h : hp.nx ≤ h4.nx) : a7Y hp (.val v h4) K = K ⟨h4.t, h4.nx, hp.pr, hp.rb⟩ v := aB (dY h) _
theorem cN {hp : Hp} {r r' : aa} {K : Hp → AV → aa} (h : mk r = r') : a7Y hp r K = a7Y hp r' K := by rw [mk_eq] at h; rw [h]
theorem aee {M : Mem} (ok : oK M) {h : Hp} {v : AV} {z i : Nat} (hv : One v) (hb : h.rb + i < 16777215) (k : AV → Hp → aa) : cF M (jR M i) v z 1 h k = k (.ptr (h.rb + i) 0) (h.dS (h.rb + i) (yF v.pl v)) := by
  show when (Nat.beq 1 1) (lP v fun c p => (jR M i).f h (.row true p 1 1 (.nd c .lf .lf)) fun id hp => k (.ptr id 0) hp) _ = _
  rw [cQ (cu 1), gU hv, sm ok hb]
  rfl
theorem box1D {h : Hp} {v : AV} {z i : Nat} (hv : One v) (hb : h.rb + i < 16777215) (k : AV → Hp → aa) : cF mem (jR mem i) v z 1 h k = k (.ptr (h.rb + i) 0) (h.dS (h.rb + i) (yF v.pl v)) := aee dD hv hb k
end Go.Proofs.YtbamejikafhenaaDoor.Ev
namespace Go.Proofs.YtbamejikafhenaaDoor.Ev
theorem aU (z : Int) : One (I z) := True.intro
theorem aT (z : Nat) : One (B8 z) := True.intro
theorem aS (z : Nat) : One (U z) := True.intro
end Go.Proofs.YtbamejikafhenaaDoor.Ev
namespace Go.Proofs.YtbamejikafhenaaDoor.Ev
theorem afn {h : Hp} {b : Nat} {B B' : bX} (hb : b < 16777215) : (h.dS b B).dS b B' = h.dS b B' := by
  obtain ⟨t, nx, pr, rb⟩ := h
  show (⟨dB .dead (dB .dead t b B) b B', nx, pr, rb⟩ : Hp) = _
  rw [zw hb]
  rfl
theorem pl_I (z : Int) : (I z).pl = true := nd rfl
theorem pl_B (z : Nat) : (B8 z).pl = true := nd rfl
theorem pl_U (z : Nat) : (U z).pl = true := nd rfl
theorem a9W : iH [] = true := nd rfl
theorem a5H {v : AV} {l : List AV} : iH (v :: l) = (v.pl && iH l) := nd rfl
theorem aiM {b : Bool} : bp true b = b := nd rfl
theorem aiV {h : Hp} : Hp.mk h.t h.nx h.pr h.rb = h := nd rfl
end Go.Proofs.YtbamejikafhenaaDoor.Ev
namespace Go.Proofs.YtbamejikafhenaaDoor.Tz
set_option linter.defProp false
def Y3 := And.intro @afn (And.intro @pl_I (And.intro @pl_B (And.intro @pl_U (And.intro @a9W (And.intro @a5H (And.intro @aiM (And.intro @Bool.and_self (And.intro @Bool.true_and (And.intro @aiV (And.intro @a5c (And.intro @a5U (And.intro @a4I (And.intro @a6w (And.intro @mP (And.intro @nf (And.intro @gd_u (And.intro @wD (And.intro @acY (And.intro @ach (And.intro @aaE (And.intro @abu (And.intro @agC (And.intro @agQ (And.intro @zy (And.intro @a0w (And.intro @a0n (And.intro @a01 (And.intro @a8q (And.intro @ad7 (And.intro @acV (And.intro @a9o (And.intro @adw (And.intro @a9a (@box1D))))))))))))))))))))))))))))))))))
end Go.Proofs.YtbamejikafhenaaDoor.Tz
namespace Go.Proofs.YtbamejikafhenaaDoor.Tz
noncomputable section
def abm : Sm := aC Go.Proofs.YtbamejikafhenaaDoor.Tz.abJ [1, 1, 0, 1]
def fin31 : aa → aa := eN Go.Proofs.YtbamejikafhenaaDoor.Tz.abJ
theorem t31 (x0 : AV) (hp : Hp) : r31.f (.nd x0 .lf .lf) hp = fin31 (lL mem (aY mem) 1 (Tr.full (S []) 6) 35 35 (.cons (.mk 0 (fun v0 => v0 (S []))) (.cons (.mk 1 (fun v1 => v1 (S [105, 110, 116]))) (.cons (.mk 2 (fun v2 => v2 (S [116, 101, 120, 116]))) (.cons (.mk 3 (fun v3 => v3 (S [98, 111, 111, 108]))) (.cons (.mk 4 (fun v4 => v4 (S [122, 101, 114, 111]))) (.cons (.mk 5 (fun v5 => v5 (S [99, 111, 112, 121]))) (.cons (.mk 6 (fun v6 => v6 (S [97, 100, 100]))) (.cons (.mk 7 (fun v7 => v7 (S [115, 117, 98]))) (.cons (.mk 8 (fun v8 => v8 (S [109, 117, 108]))) (.cons (.mk 9 (fun v9 => v9 (S [100, 105, 118]))) (.cons (.mk 10 (fun v10 => v10 (S [108, 101, 115, 115]))) (.cons (.mk 11 (fun v11 => v11 (S [115, 97, 109, 101]))) (.cons (.mk 12 (fun v12 => v12 (S [110, 111, 116]))) (.cons (.mk 13 (fun v13 => v13 (S [102, 105, 101, 108, 100]))) (.cons (.mk 14 (fun v14 => v14 (S [112, 117, 116]))) (.cons (.mk 15 (fun v15 => v15 (S [110, 101, 119]))) (.cons (.mk 16 (fun v16 => v16 (S [108, 111, 97, 100]))) (.cons (.mk 17 (fun v17 => v17 (S [115, 116, 111, 114, 101]))) (.cons (.mk 18 (fun v18 => v18 (S [109, 97, 107, 101]))) (.cons (.mk 19 (fun v19 => v19 (S [97, 116]))) (.cons (.mk 20 (fun v20 => v20 (S [115, 101, 116]))) (.cons (.mk 21 (fun v21 => v21 (S [108, 101, 110]))) (.cons (.mk 22 (fun v22 => v22 (S [106, 117, 109, 112]))) (.cons (.mk 23 (fun v23 => v23 (S [98, 114, 97, 110, 99, 104]))) (.cons (.mk 24 (fun v24 => v24 (S [97, 114, 103]))) (.cons (.mk 25 (fun v25 => v25 (S [99, 97, 108, 108]))) (.cons (.mk 26 (fun v26 => v26 (S [100, 101, 102, 101, 114]))) (.cons (.mk 27 (fun v27 => v27 (S [103, 111]))) (.cons (.mk 28 (fun v28 => v28 (S [112, 97, 110, 105, 99]))) (.cons (.mk 29 (fun v29 => v29 (S [114, 101, 99, 111, 118, 101, 114]))) (.cons (.mk 30 (fun v30 => v30 (S [101, 120, 105, 116]))) (.cons (.mk 31 (fun v31 => v31 (S [121, 105, 101, 108, 100]))) (.cons (.mk 32 (fun v32 => v32 (S [98, 108, 111, 99, 107]))) (.cons (.mk 33 (fun v33 => v33 (S [119, 97, 107, 101]))) (.cons (.mk 34 (fun v34 => v34 (S [114, 101, 116, 117, 114, 110]))) .nil))))))))))))))))))))))))))))))))))) hp (fun v35 v36 => (ae .gtr 4).f x0 (.int 4 34) (fun v37 => AV.ay v37 (fun v38 => when v38 (.ret (.n x0 (S []) v35 .uu .uu .uu .uu .uu .e) v36) ((abm).run .lf (.n x0 (S []) v35 .uu .uu .uu .uu .uu .e) v36))))) := (congrArg (fun F => bN.f F (.nd x0 .lf .lf) hp) (ba Go.Proofs.YtbamejikafhenaaDoor.Tz.abJ).symm).trans (by kernel_rfl)
end
noncomputable section
end
noncomputable section
end
noncomputable section
def afh : Sm := aC Go.Proofs.YtbamejikafhenaaDoor.Tz.abb [1, 0, 1]
def fin20 : aa → aa := eN Go.Proofs.YtbamejikafhenaaDoor.Tz.abb
theorem t20 (x0 : AV) (hp : Hp) : r20.f (.nd x0 .lf .lf) hp = fin20 ((ae .lss 4).f x0 (.int 4 1) (fun v0 => gd v0 false hp (fun k1 => k1 x0 hp) (fun v2 v3 => gd v0 false v3 (fun k4 => (ae .gtr 4).f v2 (.int 4 8) (fun v5 => k4 v5 v3)) (fun v6 v7 => aI v0 (fun v8 => v8 (.bool true)) (fun v9 => v9 v6) (fun v10 => AV.ay v10 (fun v11 => when v11 (.ret (.n x0 (S []) (.int 3 2) .uu .uu .uu .uu .uu .e) v7) ((afh).run .lf (.n x0 (S []) (.int 3 0) .uu .uu .uu .uu .uu .e) v7))))))) := (congrArg (fun F => bN.f F (.nd x0 .lf .lf) hp) (ba Go.Proofs.YtbamejikafhenaaDoor.Tz.abb).symm).trans (by kernel_rfl)
end
def zx : List (List UInt8) := [[], [105, 110, 116], [116, 101, 120, 116], [98, 111, 111, 108], [122, 101, 114, 111], [99, 111, 112, 121], [97, 100, 100], [115, 117, 98], [109, 117, 108], [100, 105, 118], [108, 101, 115, 115], [115, 97, 109, 101], [110, 111, 116], [102, 105, 101, 108, 100], [112, 117, 116], [110, 101, 119], [108, 111, 97, 100], [115, 116, 111, 114, 101], [109, 97, 107, 101], [97, 116], [115, 101, 116], [108, 101, 110], [106, 117, 109, 112], [98, 114, 97, 110, 99, 104], [97, 114, 103], [99, 97, 108, 108], [100, 101, 102, 101, 114], [103, 111], [112, 97, 110, 105, 99], [114, 101, 99, 111, 118, 101, 114], [101, 120, 105, 116], [121, 105, 101, 108, 100], [98, 108, 111, 99, 107], [119, 97, 107, 101], [114, 101, 116, 117, 114, 110]]
def qS : List (List UInt8) := [[], [110, 111, 114, 109, 97, 108], [112, 97, 110, 105, 99], [100, 101, 97, 100, 108, 111, 99, 107], [115, 116, 97, 99, 107], [104, 101, 97, 112], [114, 111, 117, 116, 105, 110, 101, 115], [115, 116, 101, 112, 115], [115, 99, 114, 105, 112, 116]]
def cG (n : Nat) : List UInt8 := zx.getD n []
def b9 (n : Nat) : List UInt8 := qS.getD n []
def oP (n : Nat) : Nat := if 1 ≤ n ∧ n < 35 then 0 else 6
def lK (n : Nat) : Nat := if 1 ≤ n ∧ n ≤ 8 then 0 else 2
noncomputable section
def a7b (r : aa) (l : List UInt8) : Bool := a9R r fun v => acQ v fun s k => Nat.beq s (aL l) && Nat.beq k l.length
def a1C (r : aa) (l : List UInt8) (e : Nat) : Bool := a9R r fun v => acB v fun s k d => Nat.beq s (aL l) && Nat.beq k l.length && Nat.beq d e
def a6s (n : Nat) : Bool := a7b (r31.f (.nd (.int 4 n) .lf .lf) .empty) (cG n) && a1C (r18.f (.nd (.int 4 n) .lf .lf) .empty) (cG n) (oP n) && a7b (r45.f (.nd (.int 4 n) .lf .lf) .empty) (b9 n) && a1C (r20.f (.nd (.int 4 n) .lf .lf) .empty) (b9 n) (lK n)
theorem acS : (List.range 256).all a6s = true := by kernel_rfl
end
theorem a0t {r : aa} {l : List UInt8} (h : a7b r l = true) : db r = some (S l) := by
  unfold a7b at h
  obtain ⟨v, hp, rfl, h2⟩ := oT h
  obtain ⟨s, k, rfl, h3⟩ := xM h2
  rw [Bool.and_eq_true, aF, aF] at h3
  rw [h3.1, h3.2]; rfl
theorem wP {r : aa} {l : List UInt8} {e : Nat} (h : a1C r l e = true) : db r = some (.bB (.nd (S l) .lf (.nd (.int 3 e) .lf .lf)) 2) := by
  unfold a1C at h
  obtain ⟨v, hp, rfl, h2⟩ := oT h
  obtain ⟨s, k, d, rfl, h3⟩ := a9v h2
  rw [Bool.and_eq_true, Bool.and_eq_true, aF, aF, aF] at h3
  rw [h3.1.1, h3.1.2, h3.2]; rfl
set_option maxRecDepth 100000 in
theorem vA (n : Nat) (h : n < 256) : a6s n = true := (List.all_eq_true (l := List.range 256) (p := a6s)).1 acS n (List.mem_range.2 h)
theorem ajx {n : Nat} (h : n < 256) : db (r31.f (.nd (B8 n) .lf .lf) .empty) = some (S (cG n)) := by
  have hc := vA n h
  unfold a6s at hc
  rw [Bool.and_eq_true, Bool.and_eq_true, Bool.and_eq_true] at hc
  exact a0t hc.1.1.1
theorem ai3 {n : Nat} (h : n < 256) : db (r18.f (.nd (B8 n) .lf .lf) .empty) = some (.bB (.nd (S (cG n)) .lf (.nd (I (oP n)) .lf .lf)) 2) := by
  have hc := vA n h
  unfold a6s at hc
  rw [Bool.and_eq_true, Bool.and_eq_true, Bool.and_eq_true] at hc
  rw [← wC (n := oP n) (by unfold oP; split <;> decide)]
  exact wP hc.1.1.2
theorem ahP {n : Nat} (h : n < 256) : db (r45.f (.nd (B8 n) .lf .lf) .empty) = some (S (b9 n)) := by
  have hc := vA n h
  unfold a6s at hc
  rw [Bool.and_eq_true, Bool.and_eq_true, Bool.and_eq_true] at hc
  exact a0t hc.1.2
theorem abn {n : Nat} (h : n < 256) : db (r20.f (.nd (B8 n) .lf .lf) .empty) = some (.bB (.nd (S (b9 n)) .lf (.nd (I (lK n)) .lf .lf)) 2) := by
  have hc := vA n h
  unfold a6s at hc
  rw [Bool.and_eq_true, Bool.and_eq_true, Bool.and_eq_true] at hc
  rw [← wC (n := lK n) (by unfold lK; split <;> decide)]
  exact wP hc.2
theorem c31 {n : Nat} {hp : Hp} {k : AV → Hp → aa} (h : n < 256) : au mem false r31 (.nd (B8 n) .lf .lf) hp k = k (S (cG n)) hp := eO (.nd (n9 _) .lf) (aV _).goes (ajx h) hp k
theorem c18 {n : Nat} {hp : Hp} {k : AV → Hp → aa} (h : n < 256) : au mem false r18 (.nd (B8 n) .lf .lf) hp k = k (.bB (.nd (S (cG n)) .lf (.nd (I (oP n)) .lf .lf)) 2) hp := eO (.nd (n9 _) .lf) (gB (oA _) (gG _)) (ai3 h) hp k
theorem c45 {n : Nat} {hp : Hp} {k : AV → Hp → aa} (h : n < 256) : au mem false r45 (.nd (B8 n) .lf .lf) hp k = k (S (b9 n)) hp := eO (.nd (n9 _) .lf) (aV _).goes (ahP h) hp k
theorem c20 {n : Nat} {hp : Hp} {k : AV → Hp → aa} (h : n < 256) : au mem false r20 (.nd (B8 n) .lf .lf) hp k = k (.bB (.nd (S (b9 n)) .lf (.nd (I (lK n)) .lf .lf)) 2) hp := eO (.nd (n9 _) .lf) (gB (oA _) (gG _)) (abn h) hp k
theorem a0l {n : Nat} : cG n = [] ↔ ¬ (1 ≤ n ∧ n < 35) := by
  by_cases h : n < 35
  · have : ∀ n, n < 35 → (cG n = [] ↔ ¬ (1 ≤ n ∧ n < 35)) := by decide
    exact this n h
  · have : cG n = [] := by
      unfold cG
      rw [List.getD_eq_getElem?_getD, List.getElem?_eq_none (show 35 ≤ n by omega)]
      rfl
    rw [this]; simp; omega
noncomputable section
end
noncomputable section
end
def acd : List UInt8 := [48, 49, 50, 51, 52, 53, 54, 55, 56, 57]
def bT (c : Nat) : Bool := Nat.ble 48 c && Nat.ble c 57
def digI (c : Nat) : Nat := if bT c then c - 48 else 18446744073709551615
noncomputable section
def intB (v : AV) (f : Nat → Bool) : Bool := match v with
  | .int 3 n => f n
  | _ => false
def xJ (c : Nat) : Bool := (a9R (r73.f (.nd (.str (aL acd) 10) .lf (.nd (.int 4 c) .lf .lf)) .empty) fun v => intB v fun n => Nat.beq n (digI c)) && (a9R (r79.f (.nd (.int 4 c) .lf (.nd (.int 3 10) .lf .lf)) .empty) fun v => intB v fun n => Nat.beq n (digI c))
theorem a6m : (List.range 256).all xJ = true := by kernel_rfl
end
theorem a4w {v : AV} {f : Nat → Bool} (h : intB v f = true) : ∃ n, v = .int 3 n ∧ f n = true := by
  unfold intB at h
  split at h
  · exact ⟨_, rfl, h⟩
  · exact Bool.noConfusion h
set_option maxRecDepth 100000 in
theorem a0b (n : Nat) (h : n < 256) : xJ n = true := (List.all_eq_true (l := List.range 256) (p := xJ)).1 a6m n (List.mem_range.2 h)
theorem acH (c : Nat) (h : c < 256) : AV.int 3 (digI c) = I (if bT c then (c : Int) - 48 else -1) := by
  unfold digI
  split
  · rename_i hd
    unfold bT at hd
    rw [Bool.and_eq_true, bA, bA] at hd
    rw [wC (by omega)]; congr 1; omega
  · rfl
theorem aik {c : Nat} (h : c < 256) : db (r73.f (.nd (S acd) .lf (.nd (B8 c) .lf .lf)) .empty) = some (I (if bT c then (c : Int) - 48 else -1)) := by
  have hc := a0b c h
  unfold xJ at hc
  rw [Bool.and_eq_true] at hc
  obtain ⟨v, h1, e1, hc1⟩ := oT hc.1
  obtain ⟨n, rfl, hn⟩ := a4w hc1
  rw [aF] at hn
  rw [hn, acH c h] at e1
  exact mV ⟨h1, e1⟩
theorem aiY {c : Nat} (h : c < 256) : db (r79.f (.nd (B8 c) .lf (.nd (I 10) .lf .lf)) .empty) = some (I (if bT c then (c : Int) - 48 else -1)) := by
  have hc := a0b c h
  unfold xJ at hc
  rw [Bool.and_eq_true] at hc
  obtain ⟨v, h1, e1, hc1⟩ := oT hc.2
  obtain ⟨n, rfl, hn⟩ := a4w hc1
  rw [aF] at hn
  rw [hn, acH c h] at e1
  exact mV ⟨h1, e1⟩
theorem c73 {c : Nat} {hp : Hp} {k : AV → Hp → aa} (h : c < 256) : au mem false r73 (.nd (S acd) .lf (.nd (B8 c) .lf .lf)) hp k = k (I (if bT c then (c : Int) - 48 else -1)) hp := eO (.nd (aV _) (.nd (n9 _) .lf)) (fD _).goes (aik h) hp k
theorem c79 {c : Nat} {hp : Hp} {k : AV → Hp → aa} (h : c < 256) : au mem false r79 (.nd (B8 c) .lf (.nd (I 10) .lf .lf)) hp k = k (I (if bT c then (c : Int) - 48 else -1)) hp := eO (.nd (n9 _) (.nd (fD _) .lf)) (fD _).goes (aiY h) hp k
noncomputable section
def kq : Sm := gT Go.Proofs.YtbamejikafhenaaDoor.Tz.qy [1, 1, 0, 1, 0]
def a0r : Fr → Hp → aa := iA Go.Proofs.YtbamejikafhenaaDoor.Tz.qy [1, 1, 0, 1, 0]
def mb : aa → aa := gX Go.Proofs.YtbamejikafhenaaDoor.Tz.qy [1, 1, 0, 1, 0]
def qW : Sm := aC Go.Proofs.YtbamejikafhenaaDoor.Tz.qy [1, 1, 0, 1, 0, 0, 1, 0]
def a3K : Sm := aC Go.Proofs.YtbamejikafhenaaDoor.Tz.qy [1, 1, 0, 1]
def ld : Sm := aC Go.Proofs.YtbamejikafhenaaDoor.Tz.qy [1, 1, 0, 1, 0, 0, 1, 1, 0, 0, 1, 1, 0, 1]
def sC : Sm := aC Go.Proofs.YtbamejikafhenaaDoor.Tz.qy [1, 1, 1, 0, 0, 1, 1, 1]
def gv : Sm := aC Go.Proofs.YtbamejikafhenaaDoor.Tz.qy [1, 1, 0, 1, 0, 0, 1, 1, 0, 0, 1, 1, 1, 1, 1]
def yk : Sm := aC Go.Proofs.YtbamejikafhenaaDoor.Tz.qy [1, 1, 1, 0, 0, 1]
def pZ : Sm := aC Go.Proofs.YtbamejikafhenaaDoor.Tz.qy [1, 1, 0, 1, 0, 0, 1, 1, 0]
def a3S : Sm := aC Go.Proofs.YtbamejikafhenaaDoor.Tz.qy [1, 1, 1, 0]
def ag8 : aa → aa := eN Go.Proofs.YtbamejikafhenaaDoor.Tz.qy
theorem t62 (x0 x1 x2 : AV) (hp : Hp) : r62.f (.nd x0 .lf (.nd x1 .lf (.nd x2 .lf .lf))) hp = ag8 (cz mem 0 x0 hp (fun v0 => ar (Nat.ble v0 9223372036854775807) (a0r (.n x0 x1 x2 (.int 7 0) (.int 3 0) (.int 3 0) (.int 3 v0) (.bool false) (.n (.int 7 0) .uu .uu .uu .uu .uu .uu .uu .e)) hp))) := (congrArg (fun F => bN.f F (.nd x0 .lf (.nd x1 .lf (.nd x2 .lf .lf))) hp) (ba Go.Proofs.YtbamejikafhenaaDoor.Tz.qy).symm).trans (by kernel_rfl)
theorem ret62 (x0 x1 x2 x3 x4 x5 x6 x7 x8 x9 : AV) (hp : Hp) : ag8 (.ret (.n x0 x1 x2 x3 x4 x5 x6 x7 (.n x8 x9 .uu .uu .uu .uu .uu .uu .e)) hp) = .val (.bB (.nd x3 .lf (.nd x4 .lf .lf)) 2) hp := by kernel_rfl
theorem kl (x0 x1 x2 x3 x4 x5 x6 x7 x8 x9 : AV) (hp : Hp) : (kq).run .lf (.n x0 x1 x2 x3 x4 x5 x6 x7 (.n x8 x9 .uu .uu .uu .uu .uu .uu .e)) hp = (ae .lss 3).f x5 x6 (fun v1 => AV.ay v1 (fun v2 => when v2 ((qW).run .lf (.n x0 x1 x2 x3 x4 x5 x6 x7 (.n x8 x9 .uu .uu .uu .uu .uu .uu .e)) hp) (.exit 0 (.n x0 x1 x2 x3 x4 x5 x6 x7 (.n x8 x9 .uu .uu .uu .uu .uu .uu .e)) hp))) := by kernel_rfl
theorem a2b (fr : Fr) (hp : Hp) : a0r fr hp = mb (aD kq 1000000 fr hp) := rfl
theorem a4h (fr : Fr) (hp : Hp) : mb (.exit 0 fr hp) = (a3K).run .lf fr hp := by kernel_rfl
theorem yL (fr : Fr) (hp : Hp) : mb (.ret fr hp) = .ret fr hp := by kernel_rfl
theorem uY (x0 x1 x2 x3 x4 x5 x6 x7 x8 x9 : AV) (hp : Hp) : (qW).run .lf (.n x0 x1 x2 x3 x4 x5 x6 x7 (.n x8 x9 .uu .uu .uu .uu .uu .uu .e)) hp = eY 7 hp (fun v3 => dj (S [48, 49, 50, 51, 52, 53, 54, 55, 56, 57, 97, 98, 99, 100, 101, 102]) .none (.some x1) (fun v4 => AV.ea x0 (fun v5 v6 => fP x5 v6 (fun v7 => bu 4 (Nat.mod (Nat.div v5 (Nat.pow 256 v7)) 256) (fun v8 => cO mem .nil .nil v3 (fun h9 => au mem false r73 (.nd v4 .lf (.nd v8 .lf .lf)) h9 (fun v10 v11 => .val v10 v11)) (fun v12 v13 => (ae .lss 3).f v13 (.int 3 0) (fun v14 => gd v14 false v12 (fun k15 => k15 x5 v12) (fun v16 v17 => gd v14 false v17 (fun k18 => (ae .eql 3).f v16 (.int 3 1) (fun v19 => k18 v19 v17)) (fun v20 v21 => gd v14 false v21 (fun k22 => k22 v20 v21) (fun v23 v24 => gd v23 true v24 (fun k25 => k25 x0 v24) (fun v26 v27 => gd v23 true v27 (fun k28 => AV.ea v26 (fun v29 v30 => fP (.int 3 0) v30 (fun v31 => bu 4 (Nat.mod (Nat.div v29 (Nat.pow 256 v31)) 256) (fun v32 => k28 v32 v27)))) (fun v33 v34 => gd v23 true v34 (fun k35 => (ae .eql 4).f v33 (.int 4 48) (fun v36 => k35 v36 v34)) (fun v37 v38 => gd v14 false v38 (fun k39 => aI v23 (fun v40 => v40 v37) (fun v41 => v41 (.bool false)) (fun v42 => k39 v42 v38)) (fun v43 v44 => aI v14 (fun v45 => v45 (.bool true)) (fun v46 => v46 v43) (fun v47 => AV.ay v47 (fun v48 => when v48 (.ret (.n x0 x1 x2 (.int 7 0) (.int 3 12) x5 x6 x7 (.n x8 v13 .uu .uu .uu .uu .uu .uu .e)) v44) ((ld).run .lf (.n x0 x1 x2 x3 x4 x5 x6 x7 (.n x8 v13 .uu .uu .uu .uu .uu .uu .e)) v44))))))))))))))))) := by kernel_rfl
theorem a4l (x0 x1 x2 x3 x4 x5 x6 x7 x8 x9 : AV) (hp : Hp) : (a3K).run .lf (.n x0 x1 x2 x3 x4 x5 x6 x7 (.n x8 x9 .uu .uu .uu .uu .uu .uu .e)) hp = (cx .eql).f x0 (S []) (fun v49 => AV.ay v49 (fun v50 => when v50 (.ret (.n x0 x1 x2 (.int 7 0) (.int 3 12) x5 x6 x7 (.n x8 x9 .uu .uu .uu .uu .uu .uu .e)) hp) (AV.ay x7 (fun v51 => when v51 (.ret (.n x0 x1 x2 (.int 7 0) (.int 3 16) x5 x6 x7 (.n x8 x9 .uu .uu .uu .uu .uu .uu .e)) hp) ((sC).run .lf (.n x0 x1 x2 x3 x4 x5 x6 x7 (.n x8 x9 .uu .uu .uu .uu .uu .uu .e)) hp))))) := by kernel_rfl
theorem nZ (x0 x1 x2 x3 x4 x5 x6 x7 x8 x9 : AV) (hp : Hp) : (ld).run .lf (.n x0 x1 x2 x3 x4 x5 x6 x7 (.n x8 x9 .uu .uu .uu .uu .uu .uu .e)) hp = gd x7 false hp (fun k52 => k52 x8 hp) (fun v53 v54 => gd x7 false v54 (fun k55 => k55 x2 v54) (fun v56 v57 => gd x7 false v57 (fun k58 => k58 x9 v57) (fun v59 v60 => gd x7 false v60 (fun k61 => AV.bV v59 (fun v62 v63 => bu 7 (rF (md v62) (hf v62) 18446744073709551616 v63) (fun v64 => k61 v64 v60))) (fun v65 v66 => gd x7 false v66 (fun k67 => (ae .sub 7).f v56 v65 (fun v68 => k67 v68 v66)) (fun v69 v70 => gd x7 false v70 (fun k71 => k71 x1 v70) (fun v72 v73 => gd x7 false v73 (fun k74 => (ae .quo 7).f v69 v72 (fun v75 => k74 v75 v73)) (fun v76 v77 => gd x7 false v77 (fun k78 => (ae .gtr 7).f v53 v76 (fun v79 => k78 v79 v77)) (fun v80 v81 => aI x7 (fun v82 => v82 (.bool true)) (fun v83 => v83 v80) (fun v84 => AV.ay v84 (fun v85 => when (dv v85) ((ae .mul 7).f x8 x1 (fun v86 => AV.bV x9 (fun v87 v88 => bu 7 (rF (md v87) (hf v87) 18446744073709551616 v88) (fun v89 => (ae .add 7).f v86 v89 (fun v90 => (gv).run .lf (.n x0 x1 x2 x3 x4 x5 x6 v84 (.n v90 x9 .uu .uu .uu .uu .uu .uu .e)) v81))))) ((gv).run .lf (.n x0 x1 x2 x3 x4 x5 x6 v84 (.n x8 x9 .uu .uu .uu .uu .uu .uu .e)) v81))))))))))) := by kernel_rfl
theorem vi (x0 x1 x2 x3 x4 x5 x6 x7 x8 x9 : AV) (hp : Hp) : (sC).run .lf (.n x0 x1 x2 x3 x4 x5 x6 x7 (.n x8 x9 .uu .uu .uu .uu .uu .uu .e)) hp = (yk).run .lf (.n x0 x1 x2 x3 x4 x5 x6 x7 (.n x8 x9 .uu .uu .uu .uu .uu .uu .e)) hp := by kernel_rfl
theorem nI (x0 x1 x2 x3 x4 x5 x6 x7 x8 x9 : AV) (hp : Hp) : (gv).run .lf (.n x0 x1 x2 x3 x4 x5 x6 x7 (.n x8 x9 .uu .uu .uu .uu .uu .uu .e)) hp = (pZ).run .lf (.n x0 x1 x2 x3 x4 x5 x6 x7 (.n x8 x9 .uu .uu .uu .uu .uu .uu .e)) hp := by kernel_rfl
theorem yO (x0 x1 x2 x3 x4 x5 x6 x7 x8 x9 : AV) (hp : Hp) : (yk).run .lf (.n x0 x1 x2 x3 x4 x5 x6 x7 (.n x8 x9 .uu .uu .uu .uu .uu .uu .e)) hp = (a3S).run .lf (.n x0 x1 x2 x3 x4 x5 x6 x7 (.n x8 x9 .uu .uu .uu .uu .uu .uu .e)) hp := by kernel_rfl
theorem tC (x0 x1 x2 x3 x4 x5 x6 x7 x8 x9 : AV) (hp : Hp) : (pZ).run .lf (.n x0 x1 x2 x3 x4 x5 x6 x7 (.n x8 x9 .uu .uu .uu .uu .uu .uu .e)) hp = (ae .add 3).f x5 (.int 3 1) (fun v91 => .ok (.n x0 x1 x2 x3 x4 v91 x6 x7 (.n x8 x9 .uu .uu .uu .uu .uu .uu .e)) hp) := by kernel_rfl
theorem a4g (x0 x1 x2 x3 x4 x5 x6 x7 x8 x9 : AV) (hp : Hp) : (a3S).run .lf (.n x0 x1 x2 x3 x4 x5 x6 x7 (.n x8 x9 .uu .uu .uu .uu .uu .uu .e)) hp = .ret (.n x0 x1 x2 x8 (.int 3 0) x5 x6 x7 (.n x8 x9 .uu .uu .uu .uu .uu .uu .e)) hp := by kernel_rfl
end
set_option linter.defProp false
def Y10 := And.intro @uY (And.intro @a4l (And.intro @nZ (And.intro @vi (And.intro @nI (And.intro @yO (And.intro @tC (@a4g)))))))
end Go.Proofs.YtbamejikafhenaaDoor.Tz
