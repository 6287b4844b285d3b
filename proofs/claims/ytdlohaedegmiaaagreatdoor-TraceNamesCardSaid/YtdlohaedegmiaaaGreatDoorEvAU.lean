import Derived.Test.YtdlohaedegmiaaaGreatDoorEvAB
import Derived.Test.YtdlohaedegmiaaaGreatDoorEvAO
import Derived.Test.YtdlohaedegmiaaaGreatDoorEvAP
import Derived.Shelf.Strings.Builder1
import Derived.Shelf.Small.Strs
import Derived.Shelf.Small.Wraps
import Derived.Shelf.Strings.BuilderF
import Derived.Shelf.Strings.BuilderK
import Derived.Shelf.Utf8.RuneCount
import Derived.Shelf.Strings.Search1
import Derived.Shelf.Strings.Search2
import Derived.Shelf.Strings.Search3
import Derived.Shelf.Strings.Cut
import Derived.Shelf.Strings.Count
import Derived.Shelf.LaysM
import Derived.Shelf.Strings.Shaped
import Derived.Shelf.Strings.LastIndex
import Derived.Shelf.Strings.LastIndexAll
import Derived.Shelf.GgClosure.StringsIndexFunc
import Derived.Ground.GgwProg
import Derived.Shelf.GgClosure.StringsIndexFuncTop
import Derived.Shelf.GgClosure.StringsRunes
import Derived.Shelf.Strings.Prefix
import Derived.Shelf.Strings.Split
import Derived.Shelf.Strings.SplitShaped
import Derived.Shelf.Unicode.Decode
import Derived.Shelf.Strings.RuneCount
import Derived.Shelf.Strings.Explode
import Derived.Shelf.Unicode.DecodeSlow
import Derived.Shelf.Unicode.DecodeAny
import Derived.Shelf.Strings.FuncGrows
import Derived.Shelf.Strings.BuilderCap
import Derived.Shelf.Slices.Turned
import Derived.Ground.PaProg
import Derived.Shelf.Path.Small
import Derived.Shelf.Small.Bits
import Derived.Shelf.Strconv.Atoi
import Derived.Shelf.Strconv.Itoa0
import Derived.Shelf.Strconv.Itoa1
import Derived.Shelf.Strconv.Itoa2
import Derived.Shelf.Strconv.Itoa3
import Derived.Shelf.Strconv.AtoiErrFast
import Derived.Shelf.Strconv.ParseIntEmpty
import Derived.Shelf.Strconv.AtoiFail
import Derived.Shelf.Strconv.Clone
import Derived.Shelf.Strconv.SyntaxError
import Derived.Shelf.LaysC
import Derived.Shelf.Strconv.ToError
import Derived.Shelf.Strconv.AtoiErr
import Derived.Shelf.Strings.Fields
import Derived.Shelf.Unicode.Latin
import Derived.Shelf.Unicode.Is16White
import Derived.Shelf.Unicode.IsSpaceAny
import Derived.Shelf.Unicode.Is16Any
import Derived.Shelf.Unicode.Is32Any
import Derived.Shelf.Unicode.ExclAny
import Derived.Ground.Names2Prog
import Derived.Shelf.Slices.CompactI
import Derived.Shelf.Slices.SearchI
import Derived.Shelf.Slices.Cells
import Derived.Test.YtdlohaedegmiaaaGreatDoorProg
import Derived.Lib.IndexMore
import Derived.Lib.LastIndexLaws
import Derived.StillTailTactics
import Derived.WalkKit
import Derived.WalkSpells
import Derived.WalkLawsBesides
import Derived.Lib.Hide
import Derived.BigQuiet
import Derived.WalkSmall
import Derived.KernelRfl
namespace Go.Proofs
open Go.Shelf
set_option maxRecDepth 100000
def Tryz.kM : Go.Shelf.Ren := ⟨fun | 166 => 17 | 240 => 38 | 276 => 69 | n => n, fun | 70 => 62 | 72 => 64 | 37 => 41 | 75 => 66 | 80 => 72 | 164 => 151 | n => n, fun | n => n⟩
theorem Tryz.a4H : Go.Proofs.Lays.n166 Tryz.prog Tryz.kM := by constructor <;> first | kernel_rfl | (intros; kernel_rfl)
theorem Tryz.j4 : Builder.Extra Tryz.prog Tryz.kM := {
  sizeBuilder := by kernel_rfl
  liesBuilder := by kernel_rfl
  t5 := Tryz.underlying5
  a5 := Tryz.isAgg5
  z5 := Tryz.sizeOf5
  v5 := Tryz.zeroValue5
  infoByte := by kernel_rfl
  cellsByte := by kernel_rfl
  sizeByte := by kernel_rfl
  neB5 := by decide }
open Go.RowKit in
theorem Tryz.Builder_WriteString_k (B b : Nat) (bs : List Value) (s : ByteArray) (w : World) (h : Lib.IsBuilderF 64 5 B b bs w) (hlen : bs.length + s.size ≤ 140737488355328) (hBw : B ≤ w.heap.size) :
    Calls Tryz.prog 17 #[.pointer (some ⟨b, 0, none⟩), .string s] w fun e w' => e = .returned (.tuple #[.int .i64 s.size, .nilIface]) ∧ (Lib.BuilderAtF 64 5 B b (.pointer (some ⟨b, 0, none⟩)) (bs ++ Lib.strCells s) w' ∧ Below B w w' ∧ Lib.OthersKept 5 (some b) w w') := Any.Builder_WriteString_k Tryz.a4H Tryz.j4 B b bs s w h hlen hBw
def Tryz.kN : Go.Shelf.Ren := ⟨fun | 169 => 21 | n => n, fun | 70 => 62 | 9 => 9 | 0 => 0 | 72 => 64 | 37 => 41 | 127 => 106 | 3 => 3 | 5 => 5 | n => n, fun | n => n⟩
theorem Tryz.a4I : Go.Proofs.Lays.n169 Tryz.prog Tryz.kN := by constructor <;> first | kernel_rfl | (intros; kernel_rfl)
theorem Tryz.j5 : Builder.Extra Tryz.prog Tryz.kN := {
  sizeBuilder := by kernel_rfl
  liesBuilder := by kernel_rfl
  t5 := Tryz.underlying5
  a5 := Tryz.isAgg5
  z5 := Tryz.sizeOf5
  v5 := Tryz.zeroValue5
  infoByte := by kernel_rfl
  cellsByte := by kernel_rfl
  sizeByte := by kernel_rfl
  neB5 := by decide }
def Tryz.rL : Go.Shelf.Ren := ⟨fun | 103 => 42 | 210 => 74 | 206 => 110 | n => n, fun | 9 => 9 | 4 => 4 | 24 => 108 | 3 => 3 | n => n, fun | n => n⟩
theorem Tryz.a4C : Go.Proofs.Lays.n103 Tryz.prog Tryz.rL := by constructor <;> first | kernel_rfl | (intros; kernel_rfl)
open Go.RowKit in
theorem Tryz.strings_CutPrefix (s p : ByteArray) (w : World) :
    Calls Tryz.prog 42 #[.string s, .string p] w fun e w' => e = .returned (.tuple #[.string ⟨(Lib.trimPrefix s.data.toList p.data.toList).toArray⟩, .bool (Lib.hasPrefix s.data.toList p.data.toList)]) ∧ w' = w := Any.strings_CutPrefix Tryz.a4C s p w
open Go.RowKit in
theorem Tryz.Builder_String_any_k (B b : Nat) (l : List UInt8) (w : World) (h : Lib.IsBuilderF 64 5 B b (Lib.byteCells l) w) (hBw : B ≤ w.heap.size) :
    Calls Tryz.prog 21 #[.pointer (some ⟨b, 0, none⟩)] w fun e w' => e = .returned (.string ⟨l.toArray⟩) ∧ (Lib.IsBuilderF 64 5 B b (Lib.byteCells l) w' ∧ Below B w w' ∧ Lib.OthersKept 5 (some b) w w') := Any.Builder_String_any_k Tryz.a4I Tryz.j5 B b l w h hBw
def Tryz.rR : Go.Shelf.Ren := ⟨fun | 217 => 112 | 266 => 145 | n => n, fun | 9 => 9 | 5 => 5 | 3 => 3 | n => n, fun | n => n⟩
theorem Tryz.a4K : Go.Proofs.Lays.n217 Tryz.prog Tryz.rR := by constructor <;> first | kernel_rfl | (intros; kernel_rfl)
open Go.RowKit Go.Lib in
theorem Tryz.stringslite_IndexByte (s : ByteArray) (c : Int) (w : World) :
    Calls Tryz.prog 112 #[.string s, .int .u8 c] w fun e w' => e = .returned (.int .i64 (Lib.indexByte s.data.toList c.toNat.toUInt8)) ∧ w' = w := Any.stringslite_IndexByte Tryz.a4K s c w
def Tryz.rN : Go.Shelf.Ren := ⟨fun | 145 => 26 | 220 => 48 | 219 => 78 | 217 => 112 | 225 => 113 | 224 => 114 | 267 => 115 | 266 => 145 | 314 => 146 | n => n, fun | 9 => 9 | 4 => 4 | 59 => 87 | 3 => 3 | 5 => 5 | 46 => 173 | 146 => 158 | 51 => 157 | n => n, fun | 1 => 0 | n => n⟩
theorem Tryz.a4E : Go.Proofs.Lays.n145 Tryz.prog Tryz.rN := by constructor <;> first | kernel_rfl | (intros; kernel_rfl)
open Go.RowKit Go.Lib in
theorem Tryz.strings_Cut (s sep : ByteArray) (m : Int) (w : World) (hs : s.size < 4294967281) (hm : w.cell? ⟨0, 0, none⟩ = some (.int .i64 m)) :
    Calls Tryz.prog 26 #[.string s, .string sep] w fun e w' => e = .returned (.tuple #[.string ⟨(Lib.cut s.data.toList sep.data.toList).1.toArray⟩, .string ⟨(Lib.cut s.data.toList sep.data.toList).2.1.toArray⟩, .bool (Lib.cut s.data.toList sep.data.toList).2.2]) ∧ ∃ n, w' = w.drewN n := Any.strings_Cut Tryz.a4E s sep m w hs hm
def Tryz.rP : Go.Shelf.Ren := ⟨fun | 148 => 25 | 222 => 46 | 223 => 47 | 269 => 77 | n => n, fun | 9 => 9 | 3 => 3 | 4 => 4 | 5 => 5 | 146 => 158 | 51 => 157 | 46 => 173 | n => n, fun | n => n⟩
theorem Tryz.a4G : Go.Proofs.Lays.n148 Tryz.prog Tryz.rP := by constructor <;> first | kernel_rfl | (intros; kernel_rfl)
open Go.RowKit Go.Lib in
theorem Tryz.strings_LastIndex (s sub : ByteArray) (hs : s.size < 4611686018427387904) (w : World) :
    Calls Tryz.prog 25 #[.string s, .string sub] w fun e w' => e = .returned (.int .i64 (Lib.lastIndex s.data.toList sub.data.toList)) ∧ w' = w := Any.strings_LastIndex Tryz.a4G s sub hs w
def Tryz.po : Go.Shelf.Ren := ⟨fun | 15 => 43 | 20 => 75 | n => n, fun | 9 => 9 | 23 => 111 | 3 => 3 | 4 => 4 | 0 => 0 | 21 => 21 | n => n, fun | n => n⟩
theorem Tryz.a1P : Go.Proofs.LaysGw.n15 Tryz.prog Tryz.po := by constructor <;> first | kernel_rfl | (intros; kernel_rfl)
open Go.RowKit Go.Lib in
theorem Tryz.strings_IndexFunc_runes (g : Nat) (lb : Array Value) (eg : ∀ args w, (callFunc g args).run Tryz.prog w = .ok (.enter g args) w) (p : Nat → Bool) (s : ByteArray) (w : World) (hp : PredAtRunes Tryz.prog g lb p w) :
    Calls Tryz.prog 43 #[.string s, .func (.func g) #[] lb] w fun e w' => e = .returned (.int .i64 (Lib.idxFunc p true s)) ∧ Below w.heap.size w w' := Any.strings_IndexFunc_runes Tryz.a1P g lb eg p s w hp
def Tryz.rO : Go.Shelf.Ren := ⟨fun | 146 => 22 | 221 => 41 | 268 => 71 | 138 => 72 | 143 => 73 | 195 => 107 | 197 => 108 | 218 => 109 | 219 => 78 | 260 => 144 | 217 => 112 | 225 => 113 | 224 => 114 | 267 => 115 | 266 => 145 | 314 => 146 | n => n, fun | 9 => 9 | 31 => 31 | 3 => 3 | 4 => 4 | 0 => 0 | 105 => 203 | 21 => 21 | 5 => 5 | 46 => 173 | 119 => 316 | 139 => 324 | 138 => 323 | 146 => 158 | 51 => 157 | n => n, fun | 1 => 0 | 3 => 2 | 4 => 3 | n => n⟩
theorem Tryz.a4F : Go.Proofs.Lays.n146 Tryz.prog Tryz.rO := by constructor <;> first | kernel_rfl | (intros; kernel_rfl)
open Go.RowKit Go.Lib in
theorem Tryz.strings_Split (s sep : ByteArray) (m : Int) (w : World) (hs : s.size < 4294967281) (hm : w.cell? ⟨0, 0, none⟩ = some (.int .i64 m)) (h1 : 1 ≤ sep.size) :
    Calls Tryz.prog 22 #[.string s, .string sep] w fun e w' =>
      e = .returned (.slice (some ⟨w.heap.size, 0, none⟩) (Lib.countB s sep + 1) (Lib.countB s sep + 1)) ∧ w' = w.alloc (.cells ((Lib.splitB sep 0 (Lib.countB s sep) s).map Value.string).toArray 9) := Any.strings_Split Tryz.a4F (by kernel_rfl) s sep m w hs hm h1
def Tryz.rQ : Go.Shelf.Ren := ⟨fun | 172 => 140 | 244 => 204 | 245 => 205 | 247 => 258 | 279 => 259 | 280 => 260 | 281 => 261 | 282 => 262 | 287 => 293 | 316 => 294 | 171 => 142 | 205 => 295 | 321 => 311 | 322 => 312 | 243 => 206 | 246 => 263 | 283 => 296 | 284 => 297 | 285 => 298 | 286 => 299 | 129 => 314 | 317 => 313 | 318 => 315 | 319 => 316 | 320 => 317 | 337 => 329 | 338 => 330 | n => n, fun | 9 => 9 | 3 => 3 | 75 => 66 | 76 => 67 | 4 => 4 | 5 => 5 | 167 => 377 | 37 => 41 | 0 => 0 | 85 => 378 | 2 => 2 | 168 => 380 | 53 => 50 | 175 => 421 | 46 => 173 | 210 => 425 | 127 => 106 | 145 => 448 | 143 => 446 | 21 => 21 | 171 => 427 | 173 => 430 | 212 => 450 | 51 => 157 | 20 => 20 | 213 => 451 | 232 => 466 | 233 => 201 | 80 => 72 | n => n, fun | 15 => 5 | 16 => 6 | 17 => 7 | 18 => 8 | 19 => 9 | n => n⟩
theorem Tryz.a4J : Go.Proofs.Lays.n172 Tryz.prog Tryz.rQ := by constructor <;> first | kernel_rfl | (intros; kernel_rfl)
open Go.RowKit in
theorem Tryz.strconv_Atoi (s : ByteArray) (n : Int) (hl : s.size ≤ 18) (h : Lib.atoi s.data.toList = some n) (w : World) :
    Calls Tryz.prog 140 #[.string s] w fun e w' => e = .returned (.tuple #[.int .i64 n, .nilIface]) ∧ ∃ t, w' = Lib.bytesWorld w 5 t := Any.strconv_Atoi Tryz.a4J s n hl h w
def Tryz.pn : Go.Shelf.Ren := ⟨fun | 172 => 140 | 244 => 204 | 245 => 205 | 247 => 258 | 279 => 259 | 280 => 260 | 281 => 261 | 282 => 262 | 287 => 293 | 316 => 294 | 171 => 142 | 205 => 295 | 321 => 311 | 322 => 312 | 243 => 206 | 246 => 263 | 283 => 296 | 284 => 297 | 285 => 298 | 286 => 299 | 129 => 314 | 317 => 313 | 318 => 315 | 319 => 316 | 320 => 317 | 337 => 329 | 338 => 330 | n => n, fun | 9 => 9 | 3 => 3 | 75 => 66 | 76 => 67 | 4 => 4 | 5 => 5 | 167 => 377 | 37 => 41 | 0 => 0 | 85 => 378 | 2 => 2 | 168 => 380 | 53 => 50 | 175 => 421 | 46 => 173 | 210 => 425 | 127 => 106 | 145 => 448 | 143 => 446 | 21 => 21 | 171 => 427 | 173 => 430 | 212 => 450 | 51 => 157 | 20 => 20 | 213 => 451 | 232 => 466 | 233 => 201 | 80 => 72 | n => n, fun | 15 => 5 | 16 => 6 | 17 => 7 | 18 => 8 | 19 => 9 | n => n⟩
theorem Tryz.a1O : Go.Proofs.LaysC.n172 Tryz.prog Tryz.pn := by repeat' first | kernel_rfl | (intro w; kernel_rfl) | constructor
open Go.RowKit in
theorem Tryz.strconv_Atoi_err (s : ByteArray) (hl : s.size ≤ 18) (h : Lib.atoi s.data.toList = none) (ev : Value) (w : World) (hv : w.cell? ⟨5, 0, none⟩ = some ev) (hev : ev = .nilIface ∨ ∃ te pe, ev = .iface te pe) :
    Calls Tryz.prog 140 #[.string s] w fun e w' => ∃ N, e = .returned (.tuple #[.int .i64 0, .iface 380 (.pointer (some ⟨N, 0, none⟩))]) ∧ w.heap.size ≤ N ∧ w'.heap[N]? = some (.cells #[.string ⟨#[65, 116, 111, 105]⟩, .string s, ev] 425 (0, 0)) ∧ Below w.heap.size w w' := Any.strconv_Atoi_err Tryz.a1O s hl h ev w hv hev
def Tryz.rS : Go.Shelf.Ren := ⟨fun | 219 => 78 | 217 => 112 | 225 => 113 | 224 => 114 | 267 => 115 | 266 => 145 | 314 => 146 | n => n, fun | 9 => 9 | 3 => 3 | 4 => 4 | 5 => 5 | 46 => 173 | 146 => 158 | 51 => 157 | n => n, fun | 1 => 0 | n => n⟩
theorem Tryz.a4L : Go.Proofs.Lays.n219 Tryz.prog Tryz.rS := by constructor <;> first | kernel_rfl | (intros; kernel_rfl)
open Go.RowKit Go.Lib in
theorem Tryz.stringslite_Index (s sub : ByteArray) (m : Int) (w : World) (hs : s.size < 4294967281) (hm : w.cell? ⟨0, 0, none⟩ = some (.int .i64 m)) :
    Calls Tryz.prog 78 #[.string s, .string sub] w fun e w' => e = .returned (.int .i64 (Lib.index s.data.toList sub.data.toList)) ∧ w' = w := Any.stringslite_Index Tryz.a4L s sub m w hs hm
def Tryz.rM : Go.Shelf.Ren := ⟨fun | 138 => 72 | 195 => 107 | 218 => 109 | 143 => 73 | 219 => 78 | 217 => 112 | 225 => 113 | 224 => 114 | 267 => 115 | 266 => 145 | 314 => 146 | n => n, fun | 9 => 9 | 3 => 3 | 4 => 4 | 5 => 5 | 0 => 0 | 46 => 173 | 146 => 158 | 51 => 157 | n => n, fun | 1 => 0 | n => n⟩
theorem Tryz.a4D : Go.Proofs.Lays.n138 Tryz.prog Tryz.rM := by constructor <;> first | kernel_rfl | (intros; kernel_rfl)
open Go.RowKit Go.Lib in
theorem Tryz.strings_Count_one (s : ByteArray) (c : UInt8) (w : World) :
    Calls Tryz.prog 72 #[.string s, .string ⟨#[c]⟩] w fun e w' => e = .returned (.int .i64 (Lib.countByte s.data.toList c)) ∧ w' = w := Any.strings_Count_one Tryz.a4D s c w
end Go.Proofs
namespace Go.Proofs.YtdlohaedegmiaaaGreatDoor.Ev
noncomputable section
def gd (v : AV) (want : Bool) (hp : Hp) (s : (AV → Hp → ab) → ab) (k : AV → Hp → ab) : ab :=
  v.on (fun _ _ => .fail) (fun b => when (u6 b want) (k bp hp) (s k)) (fun _ _ => .fail) (fun _ _ => .fail) (fun _ _ _ _ => .fail) (fun _ _ _ _ => .fail) (fun _ _ => .fail) (fun _ _ => k bp hp) (fun _ _ _ _ _ => .fail)
def drawR (n : Nat) (hp : Hp) (f : Hp → ab) : ab := Hp.rec (motive := fun _ => ab) (fun t nx pr _ => aA nx fun nx => aA (Nat.add nx n) fun m => f ⟨t, m, pr, nx⟩) hp
end
noncomputable section
def ptK (K : AV → Hp → ab) : Pt := ⟨fun _ _ _ hp v => K v hp⟩
end
noncomputable section
def pick2 (v : AV) (A B : (AV → ab) → ab) (K : AV → ab) : ab := v.dx fun t => when t (A K) (B K)
def a89 (C : Cx) (g : G) (P : Pt) (k : Sm) (c x y : Operand) : Sm := let c := cH C g c; let a := cH C g x; let b := cH C g y; ⟨fun sk fr hp => c.get sk fr fun v => pick2 v (a.get sk fr) (b.get sk fr) fun v => P.f k sk fr hp v⟩
def bslK (M : Mem) (N : NK) (z : Nat) (r0 : Row) (s n : Nat) (l : List (Nat × ((AV → ab) → ab))) (hp : Hp) (k : AV → Hp → ab) : ab :=
  List.rec (motive := fun _ => Row → Bool → ab) (fun r f => N.f hp (.row true f z s r) fun id hp => k (.ms id 0 n z) hp) (fun p _ ih t f => p.2 fun v => wrV M z z t p.1 v fun t b => ih t (aW f b)) l r0 true
def oM (C : Cx) (g : G) (P : Pt) (N : NK) (k : Sm) (t : TypeId) (len : Nat) (ps : Array (Nat × Operand)) : Sm := match slT C.P t with
  | none => aP
  | some e => let z := aC C.P e; let q := partsOf C g ps.toList (fun i => i * z) fun _ => z; let r0 := Tr.full (bE C.P e) (depth len); let s := len * z
    iff (aW (Nat.ble 1 z) (aW (bq C.P e z) (aW (Nat.ble s 16777216) (qT (fun i => i * z) (fun _ => z) s ps.toList)))) ⟨fun sk fr hp => bslK C.M N z r0 s len (q.map fun p => (p.o, p.x.get sk fr)) hp fun v hp => P.f k sk fr hp v⟩
def uw (C : Cx) (g : G) (P : Pt) (N : NK) (k : Sm) (op : Op) : Sm := match op with
  | .pick c a b => a89 C g P k c a b
  | .buildSlice t n ps => oM C g P N k t n ps
  | op => er C g P N k op
def qU (C : Cx) (g : G) (P : Pt) (k : Sm) (W : Pt → Sm → Sm) (t : Option Nat) (want : Bool) : Sm := match t with
  | none => aP
  | some t => let a := zj g.d (look C g t); ⟨fun sk fr hp => a.get sk fr fun v => gd v want hp (fun K => (W (ptK K) aP).run sk fr hp) (fun v hp => P.f k sk fr hp v)⟩
end
noncomputable section
def denG2 (C : Cx) (ops : Array Oper) (g : G) (N : NK) (o : Oper) (rest : List Oper) (k : G → Sm) : Sm :=
  match alias C g o rest with
  | some a => iff (Nat.ble (Nat.succ a.1) C.nt) (k ⟨g.d, a :: dropKey a.1 g.m⟩)
  | none => (match dst C g o.dst with
    | ⟨P, g'⟩ => (match o.guard with
      | none => uw C g P N (k g') o.op
      | some (j, want) => qU C g P (k g') (fun P k => uw C g P N k o.op) ((ops[j]?).bind (·.dst)) want))
def a43 (C : Cx) (ops : Array Oper) (l : List Oper) (g : G) (k : G → Sm) : Sm :=
  List.rec (motive := fun _ => G → Sm) k (fun o r ih g => denG2 C ops g (jr C.M) o r ih) l g
def protA (l : List ((AV → ab) → ab)) : List Nat → (List Nat → ab) → ab := List.rec (motive := fun _ => List Nat → (List Nat → ab) → ab) (fun acc k => k acc) (fun x _ ih acc k => x fun v => v.on (fun _ _ => .fail) (fun _ => .fail) (fun _ _ => ih acc k) (fun b _ => ih (b :: acc) k) (fun b _ _ _ => ih (b :: acc) k) (fun _ _ _ _ => ih acc k) (fun _ _ => .fail) (fun _ _ => .fail)
  (fun g _ b _ _ => when (Nat.beq g 4) (ih (b :: acc) k) (aq (Nat.beq g 1 || Nat.ble 6 g) (ih acc k)))) l
def wrapA (M : Mem) (A : List Nat) (l : List ((AV → ab) → ab)) (hp : Hp) (body : Hp → ab) (K : Hp → AV → ab) : ab := protA l [] fun pl => rC M A hp [] fun sv h1 =>
    ab.rec (motive := fun _ => ab) (fun _ _ => .fail) (fun _ _ _ => .fail) (fun _ _ => .fail) (fun v h2 => nB M sv h2 fun h3 => kL M hp pl h3 fun h4 => Hp.rec (motive := fun _ => ab) (fun t nx _ _ => Hp.rec (motive := fun _ => ab) (fun _ nx0 pr rb => aq (Nat.ble nx0 nx) (K ⟨t, nx, pr, rb⟩ v)) hp) h4) .fail (body (h1.a2b (yg pl hp.pr)))
def aee (M : Mem) (A : List Nat) (L : List Rd) (s : Sm) (P : Pt) (k : Sm) : Sm :=
  ⟨fun sk fr hp => wrapA M A (L.map fun x => x.get sk fr) hp (fun h => s.run sk fr h) fun h v => P.f k sk fr h v⟩
def a5A (C : Cx) (g : G) (all : List Dr) (x : Dr) (done : List Dr) (P : Pt) (k : Sm) : Sm :=
  Bool.rec (motive := fun _ => Sm)
    (let A := cA x done; let L := eM x done
     iff (kZ (pI all) L) (aee C.M A (L.map (bI C g)) (er C g a5B (vi C.M x.i) retS x.o.op) P k)) (uw C g P (vi C.M x.i) k x.o.op) (Nat.ble x.c 2)
def denD2 (C : Cx) (ops : Array Oper) (all : List Dr) (g : G) (x : Dr) (rest done : List Dr) (k : G → Sm) : Sm :=
  match alias C g x.o (opers rest) with
  | some a => iff (Nat.ble (Nat.succ a.1) C.nt) (k ⟨g.d, a :: dropKey a.1 g.m⟩)
  | none => (match dst C g x.o.dst with
    | ⟨P, g'⟩ => (match x.o.guard with
      | none => a5A C g all x done P (k g')
      | some (j, want) => qU C g P (k g') (fun P k => a5A C g all x done P k) ((ops[j]?).bind (·.dst)) want))
end
noncomputable section
def abk (C : Cx) (ops : Array Oper) (all l : List Dr) (g : G) (k : G → Sm) : List Dr → Sm :=
  List.rec (motive := fun _ => G → List Dr → Sm) (fun g _ => k g) (fun x r ih g done => denD2 C ops all g x r done (fun g => ih g (x :: done))) l g
def a0e (C : Cx) (ops : Array Oper) (g : G) (k : G → Sm) : Sm :=
  let n := ops.size
  let l := order n 0 (pM C.P ops ops.toList (jB (cC ops.toList [] 0) []) 0)
  Bool.rec (motive := fun _ => Sm) aP (let s := abk C ops l l g k []
    ⟨fun sk fr hp => drawR n hp fun hp => s.run sk fr hp⟩) (az (fZ ops.toList 0) (jZ l n))
end
noncomputable section
def den2 (C : Cx) (c : Code) : DC := Code.rec (motive := fun _ => DC)
  ⟨fun g k _ _ => k g, bV, []⟩
  (fun _ ops d => ⟨fun g k _ _ => Bool.rec (motive := fun _ => Sm) (a43 C ops ops.toList g k) (a0e C ops g k) d, bV, []⟩)
  (fun _ _ a b => ⟨fun g k ex rt => a.run g (fun g => b.run g k ex rt) ex rt, fun l => Option.rec (motive := fun _ => Option (G → (G → Sm) → jO → Sm → Sm)) (b.wN l) (fun r => some fun g k ex rt => r g (fun g => b.run g k ex rt) ex rt) (a.wN l), nc a.ls b.ls⟩)
  (fun c _ _ a b => ⟨fun g k ex rt => let r := cH C g c; let j := dy (k .e); let A := a.run g (fun _ => j) ex rt; let B := b.run g (fun _ => j) ex rt; ⟨fun sk fr hp => r.get sk fr fun v => v.dx fun t => when t (A.run sk fr hp) (B.run sk fr hp)⟩, bV, []⟩)
  (fun id _ b => ⟨fun g k ex rt => let j := dy (k .e); b.run g (fun _ => j) ((Nat.mul 2 id, j) :: ex) rt, bV, []⟩)
  (fun _ b => ⟨fun _ _ ex rt => let s := b.run .e (fun _ => jv) (dS ex) ku; ⟨fun _ fr hp => k4 (ez s 1000000 fr hp) (fun _ _ => .fail) ex rt⟩, bV, []⟩)
  (fun f ps _ _ _ _ => ⟨fun g k ex rt => let j := k .e; a2R C (ps.getD 0 0) (cH C g f) (fun fr hp => j.run .lf fr hp) ex rt, bV, []⟩)
  (fun id => ⟨fun _ _ ex _ => dy (gy (Nat.mul 2 id) ex), bV, []⟩)
  (fun _ b => ⟨fun _ k ex rt => let j := k .e; let ex' := zR b.ls (dS ex); let s := b.run .e (fun _ => jv) ex' ku
      let segs : Lb := ⟨fun l => Option.rec (motive := fun _ => Sm) aP (fun r => r .e (fun _ => jv) ex' ku) (b.wN l)⟩
      ⟨fun _ fr hp => k4 (dj b.ls segs 1000000 s fr hp) (fun fr hp => j.run .lf fr hp) ex rt⟩, bV, []⟩)
  (fun l => ⟨fun g k _ _ => k g, fun m => Bool.rec (motive := fun _ => Option (G → (G → Sm) → jO → Sm → Sm)) none (some fun g k _ _ => k g) (Nat.beq l m), [l]⟩)
  (fun l => ⟨fun _ _ ex _ => dy (gy (Nat.succ (Nat.mul 2 l)) ex), bV, []⟩)
  ⟨fun _ _ _ rt => dy rt, bV, []⟩
  (fun _ => ⟨fun _ _ _ _ => aP, bV, []⟩) c
structure Ctx where
  c : Code
  k : G → Sm
  ex : jO
  rt : Sm
def Ctx.down (C : Cx) (x : Ctx) (i : Nat) : Ctx := match x.c with
  | .seq a b => match i with
    | 0 => ⟨a, fun g => (den2 C b).run g x.k x.ex x.rt, x.ex, x.rt⟩
    | _ => ⟨b, x.k, x.ex, x.rt⟩
  | .cond _ a b => match i with
    | 0 => ⟨a, fun _ => dy (x.k .e), x.ex, x.rt⟩
    | _ => ⟨b, fun _ => dy (x.k .e), x.ex, x.rt⟩
  | .block id b => ⟨b, fun _ => dy (x.k .e), (Nat.mul 2 id, dy (x.k .e)) :: x.ex, x.rt⟩
  | .loop b => ⟨b, fun _ => jv, dS x.ex, ku⟩
  | _ => x
def Ctx.at (C : Cx) (x : Ctx) (p : List Nat) : Ctx := List.rec (motive := fun _ => Ctx → Ctx) (fun x => x) (fun i _ ih x => ih (x.down C i)) p x
end
noncomputable def S (l : List UInt8) : AV := .str (aI l) l.length
def I (z : Int) : AV := .int 3 (z % 18446744073709551616).toNat
def R63 (a : Int) : Prop := -9223372036854775808 ≤ a ∧ a < 9223372036854775808
section
variable {a b : Int} {k : AV → ab}
end
section
variable {a b : Nat} {k : AV → ab}
end
section
variable {a b : List UInt8} {k : AV → ab} {hp : Hp}
end
section
variable {s : Sm} {n : Nat} {fr fr' : Fr} {hp hp' : Hp} {id : Nat}
end
def tR (n s : Nat) : List UInt8 := (eJ n s).map Nat.toUInt8
theorem gU (l : List UInt8) : tR l.length (aI l) = l := by
  unfold tR
  rw [gh]
  show (l.map (·.toNat)).map Nat.toUInt8 = l
  rw [List.map_map]
  conv => rhs; rw [← List.map_id l]
  exact List.map_congr_left fun b _ => by simp
noncomputable def xP (q : Nat) (spec : List UInt8 → List UInt8 → AV) : ao := ⟨fun l hp => fT l fun a r => fT r fun b r => qB r (a.bW fun s n => b.bW fun t m => aq (Nat.ble n q) (aq (Nat.ble m q) (.val (spec (tR n s) (tR m t)) hp)))⟩
section
variable {V : Env} {f : FuncId}
theorem mR {q : Nat} {spec : List UInt8 → List UInt8 → AV} (hcan : Can V.P f)
    (H : ∀ (s t : ByteArray) (w : World) (F : Nat → Prop) (μ : Mu), V.pL w F → s.size ≤ q → t.size ≤ q → Calls V.P f #[.string s, .string t] w fun e w' => ∃ x, e = .returned x ∧ RowKit.Below w.heap.size w w' ∧ ae w' F μ (spec s.data.toList t.data.toList) x) : ai V f (xP q spec) := by
  refine ai.known hcan fun l hp R h hR => ?_
  obtain ⟨a, _, r, rfl, h1⟩ := b9 hR h
  obtain ⟨b, _, r, rfl, h2⟩ := b9 hR h1
  obtain ⟨rfl, h3⟩ := dP hR h2
  obtain ⟨s, n, rfl, h4⟩ := aM hR h3
  obtain ⟨t, m, rfl, h5⟩ := aM hR h4
  obtain ⟨hn, h6⟩ := ah hR h5
  obtain ⟨hm, h7⟩ := ah hR h6
  rw [aK] at hn hm
  refine ⟨_, h7.symm, fun w F μ args hg ha => ?_⟩
  obtain ⟨x, y, rfl, hx, hy⟩ := nA ha
  obtain ⟨b1, rfl, rfl, rfl⟩ := cV hx
  obtain ⟨b2, rfl, rfl, rfl⟩ := cV hy
  have e1 : tR b1.size (aI b1.data.toList) = b1.data.toList := gU b1.data.toList
  have e2 : tR b2.size (aI b2.data.toList) = b2.data.toList := gU b2.data.toList
  rw [e1, e2]
  exact H b1 b2 w F μ hg hn hm
theorem sN {w : World} {F : Nat → Prop} {μ : Mu} (l : List UInt8) : ae w F μ (S l) (.string ⟨l.toArray⟩) := jA (b := ⟨l.toArray⟩) rfl rfl
theorem a2S {w : World} {F : Nat → Prop} {μ : Mu} {i : Int} (h : R63 i) : ae w F μ (I i) (.int .i64 i) := by
  obtain ⟨h1, h2⟩ := h
  have := ae.int (w := w) (F := F) (μ := μ) (k := 3) (n := (i % 18446744073709551616).toNat) (by show (i % 18446744073709551616).toNat < 18446744073709551616; omega)
  have e : (kd 3).wrap (((i % 18446744073709551616).toNat : Nat) : Int) = i := by
    show IntKind.i64.wrap _ = i
    have e2 : (((i % 18446744073709551616).toNat : Nat) : Int) = i % 18446744073709551616 := by omega
    rw [e2]
    simp only [IntKind.wrap]
    first
      | omega
      | (simp [IntKind.bits, IntKind.signed]; omega)
  rw [e] at this
  exact this
noncomputable def a07 : ao := xP 4294967280 fun s p => .bM (.nd (S (Lib.trimPrefix s p)) .lf (.nd (.bool (Lib.hasPrefix s p)) .lf .lf)) 2
theorem a08 (hcan : Can V.P f) (H : ∀ (s p : ByteArray) (w : World), Calls V.P f #[.string s, .string p] w fun e w' => e = .returned (.tuple #[.string ⟨(Lib.trimPrefix s.data.toList p.data.toList).toArray⟩, .bool (Lib.hasPrefix s.data.toList p.data.toList)]) ∧ w' = w) : ai V f a07 :=
  mR hcan fun s t w F μ _ _ _ => (H s t w).mono fun e w' ⟨e1, e2⟩ => ⟨_, e1, by rw [e2]; exact .refl _ _, jz (sN _) (.bool _)⟩
noncomputable def cutF : ao := xP 4294967280 fun s p => .bM (.nd (S (Lib.cut s p).1) .lf (.nd (S (Lib.cut s p).2.1) .lf (.nd (.bool (Lib.cut s p).2.2) .lf .lf))) 3
theorem zt {w : World} {F : Nat → Prop} {μ : Mu} {a b c : AV} {x y z : Value} (ha : ae w F μ a x) (hb : ae w F μ b y) (hc : ae w F μ c z) : ae w F μ (.bM (.nd a .lf (.nd b .lf (.nd c .lf .lf))) 3) (.tuple #[x, y, z]) :=
  .bM (fun i => if i = 0 then x else if i = 1 then y else z) rfl (fun i hi => by
    have : i < 3 := hi
    rcases (by omega : i = 0 ∨ i = 1 ∨ i = 2) with rfl | rfl | rfl <;> rfl) fun i hi => by
    have : i < 3 := hi
    rcases (by omega : i = 0 ∨ i = 1 ∨ i = 2) with rfl | rfl | rfl
    · exact ha
    · exact hb
    · exact hc
theorem a3W (hcan : Can V.P f) (H : ∀ (s t : ByteArray) (w : World) (F : Nat → Prop), V.pL w F → s.size < 4294967281 → Calls V.P f #[.string s, .string t] w fun e w' => e = .returned (.tuple #[.string ⟨(Lib.cut s.data.toList t.data.toList).1.toArray⟩, .string ⟨(Lib.cut s.data.toList t.data.toList).2.1.toArray⟩, .bool (Lib.cut s.data.toList t.data.toList).2.2]) ∧ RowKit.Below w.heap.size w w') : ai V f cutF :=
  mR hcan fun s t w F μ hg hs _ => (H s t w F hg (by omega)).mono fun e w' ⟨e1, e2⟩ => ⟨_, e1, e2, zt (sN _) (sN _) (.bool _)⟩
noncomputable def a1M : ao := xP 4294967280 fun s p => I (Lib.lastIndex s p)
theorem ve (s sub : List UInt8) : ∀ k, -1 ≤ Lib.lastOcc s sub k ∧ Lib.lastOcc s sub k < k + 1 := by
  intro k
  rcases Lib.lastOcc_spec s sub k with ⟨h, _⟩ | ⟨i, h1, h2, _⟩
  · rw [h]; omega
  · rw [h2]; omega
theorem a1N (hcan : Can V.P f) (H : ∀ (s t : ByteArray) (w : World), s.size < 4611686018427387904 → Calls V.P f #[.string s, .string t] w fun e w' => e = .returned (.int .i64 (Lib.lastIndex s.data.toList t.data.toList)) ∧ w' = w) : ai V f a1M :=
  mR hcan fun s t w F μ _ hs _ => (H s t w (by omega)).mono fun e w' ⟨e1, e2⟩ => ⟨_, e1, by rw [e2]; exact .refl _ _, a2S (by
    have hl : s.data.toList.length ≤ 4294967280 := hs
    unfold R63 Lib.lastIndex
    split
    · have := ve s.data.toList t.data.toList (s.data.toList.length - t.data.toList.length + 1)
      omega
    · omega)⟩
end
end Go.Proofs.YtdlohaedegmiaaaGreatDoor.Ev
open Go Go.Proofs.YtdlohaedegmiaaaGreatDoor.Ev
namespace Go.Proofs.YtdlohaedegmiaaaGreatDoor.Tz
section
variable {vs : Vs} (hG : vs.G = GW 1 0 5)
theorem h112 : ai ⟨Tryz.prog, vs⟩ 112 idxF := a4w ⟨_, Tryz.func112, by kernel_rfl, by kernel_rfl⟩ fun s c w => Tryz.stringslite_IndexByte s c w
theorem h72 {G : ao} (h : ai ⟨Tryz.prog, vs⟩ 72 G) : ai ⟨Tryz.prog, vs⟩ 72 (cntG G) := a3T h (fun s c w => Tryz.strings_Count_one s c w) ⟨_, Tryz.func72, by kernel_rfl, by kernel_rfl⟩
theorem h42 : ai ⟨Tryz.prog, vs⟩ 42 a07 := a08 ⟨_, Tryz.func42, by kernel_rfl, by kernel_rfl⟩ fun s p w => Tryz.strings_CutPrefix s p w
theorem h25 : ai ⟨Tryz.prog, vs⟩ 25 a1M := a1N ⟨_, Tryz.func25, by kernel_rfl, by kernel_rfl⟩ fun s t w hs => Tryz.strings_LastIndex s t hs w
include hG
theorem h26 : ai ⟨Tryz.prog, vs⟩ 26 cutF := a3W ⟨_, Tryz.func26, by kernel_rfl, by kernel_rfl⟩ fun s t w F hg hs => by
  obtain ⟨h1, _⟩ := hg
  have h1' : vs.G w := h1
  rw [hG] at h1'
  obtain ⟨_, ⟨m, hm⟩, _⟩ := h1'
  exact (Tryz.strings_Cut s t m w hs hm).mono fun e w' ⟨h1, n, h2⟩ => ⟨h1, by rw [h2]; exact ⟨rfl, rfl, rfl, Nat.le_refl _, fun _ _ => rfl⟩⟩
theorem h78 : ai ⟨Tryz.prog, vs⟩ 78 subF := a5m ⟨_, Tryz.func78, by kernel_rfl, by kernel_rfl⟩ fun s m w F hg hs => by
  obtain ⟨h1, _⟩ := hg
  have h1' : vs.G w := h1
  rw [hG] at h1'
  obtain ⟨_, ⟨k, hk⟩, _⟩ := h1'
  exact Tryz.stringslite_Index s m k w hs hk
theorem h140 : ai ⟨Tryz.prog, vs⟩ 140 (atoF 380) := by
  refine a3J ⟨_, Tryz.func140, by kernel_rfl, by kernel_rfl⟩ (fun s n w hl h => (Tryz.strconv_Atoi s n hl h w).mono fun e w' ⟨h1, t, h2⟩ => ⟨h1, by rw [h2]; exact Lib.bytesWorld_below w 5 t⟩) fun s w F hg hl h => ?_
  obtain ⟨h1, _⟩ := hg
  have h1' : vs.G w := h1
  rw [hG] at h1'
  obtain ⟨_, _, ev, he, hx⟩ := h1'
  exact (Tryz.strconv_Atoi_err s hl h ev w he hx).mono fun e w' ⟨N, e1, _, _, hb⟩ => ⟨⟨_, e1⟩, hb⟩
end
end Go.Proofs.YtdlohaedegmiaaaGreatDoor.Tz
namespace Go.Proofs.YtdlohaedegmiaaaGreatDoor.Tz
open Go.RowKit
abbrev Grow (w w' : World) : Prop := Below w.heap.size w w'
theorem wo {w : World} {p : Addr} {v : Value} (h : w.cell? p = some v) : p.block < w.heap.size := by
  simp only [World.cell?] at h
  split at h
  · rename_i heq
    exact (Array.getElem?_eq_some_iff.1 heq).1
  · cases h
theorem _root_.Go.RowKit.Below.keep {w w' : World} (g : Grow w w') {p : Addr} {v : Value} (h : w.cell? p = some v) : w'.cell? p = some v := by
  rw [g.cell (wo h)]; exact h
theorem _root_.Go.RowKit.Below.then {w w1 w2 : World} (g : Grow w w1) (h : Grow w1 w2) : Grow w w2 := g.trans (h.mono g.size)
theorem _root_.Go.RowKit.Below.jS {w w' : World} (g : Grow w w') (o : Obj) : Grow w (w'.alloc o) := g.alloc g.size o
structure j7 (w : World) where
  w' : World
  h : Grow w w'
theorem Calls.later {P : Program} {f : FuncId} {args : Array Value} {w : World} {d : j7 w} {v : Value}
    (h : Calls P f args d.w' fun e w' => e = .returned v ∧ Grow d.w' w') : Calls P f args d.w' fun e w'' => e = .returned v ∧ ∃ d' : j7 w, w'' = d'.w' :=
  h.mono fun _ w' ⟨he, hg⟩ => ⟨he, ⟨w', d.h.then hg⟩, rfl⟩
def Has (w : World) (b off : Nat) (cs : List Value) : Prop := ∀ j v, cs[j]? = some v → w.cell? ⟨b, off + j, none⟩ = some v
theorem Has.grow {w w' : World} {b off : Nat} {cs : List Value} (h : Has w b off cs) (g : Grow w w') : Has w' b off cs :=
  fun j v hj => g.keep (h j v hj)
instance {w : World} : Nonempty (j7 w) := ⟨⟨w, Below.refl _ _⟩⟩
end Go.Proofs.YtdlohaedegmiaaaGreatDoor.Tz
namespace Go.Proofs.YtdlohaedegmiaaaGreatDoor.Tz
open Go.RowKit
section
variable {P : Program} {ops : Array Oper} {md : Region.Mode} {C : World → Prop}
def cn (P : Program) (md : Region.Mode) (ops : Array Oper) (C : World → Prop) (n : Nat) (L : Array Bool → Act → Prop) : Nat → Array Bool → Act → Prop
  | 0, seen, a => L seen a
  | f + 1, seen, a => Region.ready md ops seen ≠ [] ∧ ∀ i, i ∈ Region.ready md ops seen → i < n ∧ qOp P ops C i (cn P md ops C n L f (seen.setIfInBounds i true)) a
theorem cn.wpAny {n g : Nat} {L : Array Bool → Act → Prop} {Q : Exit → Act → World → Prop} (hL : ∀ seen a w, C w → L seen a → wpAny P md ops Q g seen a w) (f : Nat) :
    ∀ (seen : Array Bool) (a : Act) (w : World), C w → cn P md ops C n L f seen a → wpAny P md ops Q (f + g) seen a w := by
  induction f with
  | zero => intro seen a w hw h; rw [Nat.zero_add]; exact hL seen a w hw h
  | succ f ih =>
    intro seen a w hw h
    rw [Nat.succ_add]
    refine ⟨fun h0 => absurd h0 h.1, fun i hi => ?_⟩
    exact wpOp_of_qOp hw (fun a' w' hw' h' => ih _ a' w' hw' h') (h.2 i hi).2
theorem cn.first {n i : Nat} {oi : Oper} {v : Value} {L : Array Bool → Act → Prop} (hi : ops[i]? = some oi) (hsel : ∀ (j : Nat) (o : Oper) cs b, ops[j]? = some o → o.op ≠ .select cs b)
    (hs : Region.sinkB md ops n = true) (hc : Region.chainB md ops n = true) (hn : n < ops.size) (hin : i < n)
    (hdone : ∀ seen a, L seen a → ∀ j, j ∈ Region.ready md ops seen → n ≤ j) (f : Nat) :
    ∀ (seen : Array Bool) (a : Act), HeadInv md ops n seen →
      (∀ j oj, ops[j]? = some oj → j ≠ i → seen.getD j true = false → (∀ e ∈ oj.after, Region.binds md e = true → e.on ≠ i) → oi.apart ops oj = true) →
      i ∈ Region.ready md ops seen → YieldsIn P ops C oi v a →
      cn P md ops C n L f (seen.setIfInBounds i true) (a.put oi.dst v) → cn P md ops C n L (f + 1) seen a := by
  induction f with
  | zero =>
    intro seen a inv _ hr hy H
    have hun := (mem_ready.1 hr).1
    refine ⟨List.ne_nil_of_mem hr, fun j hj => ?_⟩
    have hjn : j < n := Nat.lt_of_not_le fun h => tail_waits hs hc hn inv _ i rfl hin hun j h hj
    refine ⟨hjn, ?_⟩
    by_cases hji : j = i
    · subst hji; exact hy.qOp hi H
    · exact absurd (hdone _ _ H j (ready_mono hj hji)) (Nat.not_le_of_lt hjn)
  | succ f ih =>
    intro seen a inv hfree hr hy H
    have hun := (mem_ready.1 hr).1
    refine ⟨List.ne_nil_of_mem hr, fun j hj => ?_⟩
    have hjn : j < n := Nat.lt_of_not_le fun h => tail_waits hs hc hn inv _ i rfl hin hun j h hj
    refine ⟨hjn, ?_⟩
    by_cases hji : j = i
    · subst hji; exact hy.qOp hi H
    · have h1 := (H.2 j (ready_mono hj hji)).2
      obtain ⟨hjun, oj, hoj, hall⟩ := mem_ready.1 hj
      have hnot : ∀ e ∈ oj.after, Region.binds md e = true → e.on ≠ i := by
        intro e he hb heq
        have h2 := hall e he hb
        rw [heq, getD_both hun] at h2
        cases h2
      have h2 := qOp_put hoj (hfree j oj hoj hji hjun hnot) (fun cs b => hsel i oi cs b hi) (fun cs b => hsel j oj cs b hoj) hy h1
      refine qOp_mono (fun a' h3 => ih (seen.setIfInBounds j true) a' (inv.set hj hjn) ?_ (ready_mono hr (Ne.symm hji)) h3.1 ?_) h2
      · intro k ok hk hki hun' hno
        refine hfree k ok hk hki ?_ hno
        by_cases hjk : j = k
        · subst hjk; exact hjun
        · rw [getD_set_ne true hjk] at hun'; exact hun'
      · rw [Array.setIfInBounds_comm _ _ hji]
        exact h3.2
theorem cn.lex {n g : Nat} {K : Act → Prop} (hsel : Region.noSelect ops = true) (hs : Region.sinkB md ops n = true) (hc : Region.chainB md ops n = true) (hn : n < ops.size) (l : List Oper) :
    ∀ (k : Nat) (seen : Array Bool) (a : Act), (∀ j, j < l.length → l[j]? = ops[k + j]?) → k + l.length = n → HeadInv md ops n seen →
    Region.lexHead md ops g l.length k seen = true → wpQuiet P ops C K l a →
    cn P md ops C n (fun seen' a' => Region.seqB md ops g n seen' = true ∧ K a') l.length seen a := by
  induction l with
  | nil =>
    intro k seen a _ hk _ hB h
    obtain rfl : k = n := by simpa using hk
    exact ⟨by simpa [Region.lexHead] using hB, h⟩
  | cons o l ih =>
    intro k seen a hl hk inv hB h
    have h0 : ops[k]? = some o := by simpa using (hl 0 (by simp)).symm
    simp only [List.length_cons, Region.lexHead, Bool.and_eq_true] at hB
    obtain ⟨⟨hr, hf⟩, hB'⟩ := hB
    simp only [List.length_cons] at hk
    have hkn : k < n := by omega
    have hr' : k ∈ Region.ready md ops seen := by simpa using hr
    have hst : qOp P ops C k (wpQuiet P ops C K l) a := by unfold qOp; simp only [h0]; exact h
    obtain ⟨v, hy, hK⟩ := yieldsIn_of_qOp h0 hst
    refine cn.first h0 (Region.noSelect_spec hsel) hs hc hn hkn (fun seen' a' hL => seqB_ready hL.1) l.length seen a inv (Region.free_spec h0 hf) hr' hy ?_
    refine ih (k + 1) _ _ (fun j hj => ?_) (by omega) (inv.set hr' hkn) hB' hK
    have := hl (j + 1) (by simp; omega)
    simpa [Nat.add_assoc, Nat.add_comm 1 j] using this
theorem gW {id : Nat} {Q : Exit → Act → World → Prop} {a : Act} {w : World} {l : List Oper} (n : Nat) (hm : P.follows .mixedOrders = true) (hB : Region.lexTailB .any l.toArray n = true)
    (hC : C { w with drawn := w.drawn + 1 }) (h : wpQuiet P l.toArray C (fun a' => ∀ w', C w' → wpList P l.toArray Q (l.drop n) a' w') (l.take n) a) : (Code.region id l.toArray true).wp P Q a w := by
  simp only [Region.lexTailB, Bool.and_eq_true, decide_eq_true_eq] at hB
  obtain ⟨⟨⟨⟨hsel, hn⟩, hs⟩, hc⟩, hlex⟩ := hB
  have hn' : n < l.length := by simpa using hn
  have htl : (l.take n).length = n := by simp; omega
  have hdl : (l.drop n).length = l.toArray.size - n := by simp
  have inv0 : HeadInv .any l.toArray n (Array.replicate l.toArray.size false) :=
    ⟨by simp, fun j oj _ hl => (by rw [getD_replicate_false] at hl; cases hl), fun t _ ht => getD_in (by simpa using ht) (getD_replicate_false _ _)⟩
  have H := cn.lex (md := .any) (C := C) (g := l.toArray.size - n) hsel hs hc hn (l.take n) 0 _ a (fun j hj => by
    have hj' : j < n := by rw [htl] at hj; exact hj
    simp [hj']) (by simpa using htl) inv0 (by rw [htl]; exact hlex) h
  refine wp_region_any hm ?_
  have := cn.wpAny (Q := Q) (g := l.toArray.size - n) (fun seen a' w' hw' hL => by
    have := wpAny_of_seq (md := .any) (Q' := Q) (l.drop n) n seen a' w' (fun j => by simp [List.getElem?_drop]) (by rw [hdl]; exact hL.1) (hL.2 w' hw')
    rwa [hdl] at this) _ _ _ _ hC H
  rw [htl, show n + (l.toArray.size - n) = l.toArray.size by omega] at this
  exact this
end
theorem gX {P : Program} {id : Nat} {Q : Exit → Act → World → Prop} {a : Act} {w : World} {l : List Oper} (n : Nat) (hm : P.follows .mixedOrders = true) (hB : Region.lexTailB .any l.toArray n = true)
    (h : wpQuiet P l.toArray (fun w' => ∃ d : j7 w, w' = d.w') (fun a' => ∀ w', (∃ d : j7 w, w' = d.w') → wpList P l.toArray Q (l.drop n) a' w') (l.take n) a) : (Code.region id l.toArray true).wp P Q a w :=
  gW n hm hB ⟨⟨_, (Below.refl _ _).drew⟩, rfl⟩ h
end Go.Proofs.YtdlohaedegmiaaaGreatDoor.Tz
namespace Go.Proofs.YtdlohaedegmiaaaGreatDoor.Ev
theorem xN {α : Type} (d : α) : ∀ (n : Nat) (t : Tr α) (i : Nat) (x : α), i + 1 < 2 ^ n → ∃ t', eo d t i x t' ∧ ∀ k, (sk d n).f t i x k = k t'
  | 0, t, i, x, h => absurd h (by simp)
  | n + 1, .lf, 0, x, h => ⟨_, iW (fun j => by cases j <;> rfl), fun _ => rfl⟩
  | n + 1, .nd v l r, 0, x, h => ⟨_, fun j => by cases j <;> rfl, fun _ => rfl⟩
  | n + 1, .lf, j + 1, x, h => by
    have hlt : j / 2 + 1 < 2 ^ n := by have : 2 ^ (n + 1) = 2 * 2 ^ n := by rw [Nat.pow_succ, Nat.mul_comm]
                                       omega
    obtain ⟨t', h1, h2⟩ := xN d n .lf (j / 2) x hlt
    have e : ∀ k, (sk d (n + 1)).f .lf (j + 1) x k = (Nat.rec (motive := fun _ => ab) ((sk d n).f .lf (Nat.div j 2) x fun l => k (.nd d l .lf)) (fun _ _ => (sk d n).f .lf (Nat.div j 2) x fun r => k (.nd d .lf r)) (j % 2) : ab) := fun _ => rfl
    rcases rY j with hj | hj
    · exact ⟨_, iW (gR hj h1), fun k => by rw [e, hj]; exact h2 _⟩
    · exact ⟨_, iW (ff hj h1), fun k => by rw [e, hj]; exact h2 _⟩
  | n + 1, .nd v l r, j + 1, x, h => by
    have hlt : j / 2 + 1 < 2 ^ n := by have : 2 ^ (n + 1) = 2 * 2 ^ n := by rw [Nat.pow_succ, Nat.mul_comm]
                                       omega
    have e : ∀ k, (sk d (n + 1)).f (.nd v l r) (j + 1) x k = (Nat.rec (motive := fun _ => ab) ((sk d n).f l (Nat.div j 2) x fun l' => k (.nd v l' r)) (fun _ _ => (sk d n).f r (Nat.div j 2) x fun r' => k (.nd v l r')) (j % 2) : ab) := fun _ => rfl
    rcases rY j with hj | hj
    · obtain ⟨t', h1, h2⟩ := xN d n l (j / 2) x hlt
      exact ⟨_, gR hj h1, fun k => by rw [e, hj]; exact h2 _⟩
    · obtain ⟨t', h1, h2⟩ := xN d n r (j / 2) x hlt
      exact ⟨_, ff hj h1, fun k => by rw [e, hj]; exact h2 _⟩
structure zO (M : Mem) : Prop where
  rg : ∀ {t : Row} {i : Nat}, i < 16777215 → ∀ k, M.rg.f t i k = k (t.at i)
  rs : ∀ {t : Row} {i : Nat} (x : AV), i < 16777215 → ∃ t', eo .uu t i x t' ∧ ∀ k, M.rs.f t i x k = k t'
  hg : ∀ {t : Tr aX} {i : Nat}, i < 16777215 → ∀ k, M.hg.f t i k = k (t.get .dead i)
  hs : ∀ {t : Tr aX} {i : Nat} (x : aX), i < 16777215 → ∃ t', eo .dead t i x t' ∧ ∀ k, M.hs.f t i x k = k t'
  h0 : ∀ (B B' : aX) (k : Tr aX → ab), M.hs.f (.nd B .lf .lf) 0 B' k = k (.nd B' .lf .lf)
  n0 : ∀ (B : aX) (k : Tr aX → ab), M.hs.f .lf 0 B k = k (.nd B .lf .lf)
def H1 (B : aX) : Hp := ⟨.nd B .lf .lf, 1, [], 0⟩
section
variable {M : Mem} (ok : zO M)
include ok
end
section
variable {M : Mem} {h : Hp} {b m : Nat}
end
section
variable {M : Mem} (ok : zO M)
include ok
end
section
variable {M : Mem} (ok : zO M)
include ok
end
noncomputable section
open Classical in
def tput {α : Type} (d : α) (t : Tr α) (i : Nat) (x : α) : Tr α := if h : i + 1 < 2 ^ 24 then (xN d 24 t i x h).choose else t
def Hp.jK (h : Hp) (b : Nat) (B : aX) : Hp := ⟨tput .dead h.t b B, h.nx, h.pr, h.rb⟩
def Hp.add (h : Hp) (B : aX) : Hp := ⟨tput .dead h.t h.nx B, h.nx + 1, h.pr, h.rb⟩
end
structure MemT (M : Mem) : Prop where
  rg : ∀ {t : Row} {i : Nat}, i < 16777215 → ∀ k, M.rg.f t i k = k (t.at i)
  rs : ∀ {t : Row} {i : Nat} {x : AV}, i < 16777215 → ∀ k, M.rs.f t i x k = k (tput .uu t i x)
  hg : ∀ {t : Tr aX} {i : Nat}, i < 16777215 → ∀ k, M.hg.f t i k = k (t.get .dead i)
  hs : ∀ {t : Tr aX} {i : Nat} {x : aX}, i < 16777215 → ∀ k, M.hs.f t i x k = k (tput .dead t i x)
section
variable {h : Hp} {b c : Nat} {B : aX}
end
def wP : List AV → Row
  | [] => .lf
  | a :: l => .nd a .lf (wP l)
noncomputable def AV.pl (v : AV) : Bool := match v with
  | .int .. | .bool .. | .str .. => true
  | .x g .. => kp g
  | _ => false
section
variable {M : Mem} (ok : MemT M)
include ok
end
theorem fa (o f b : Nat) (k : AV → ab) : fieldAddr f (.ptr b o) k = k (.ptr b (o + f)) := by
  show aA (o + f) (fun p => k (.ptr b p)) = _
  rw [aw]
end Go.Proofs.YtdlohaedegmiaaaGreatDoor.Ev
namespace Go.Proofs.YtdlohaedegmiaaaGreatDoor.Ev
section
variable {M : Mem} (ok : MemT M) {h : Hp} {b o : Nat} {p : Bool} {l l' : List AV} {v : AV}
include ok
end
section
variable {h : Hp} {b o : Nat} {p : Bool} {l l' : List AV} {v : AV}
end
end Go.Proofs.YtdlohaedegmiaaaGreatDoor.Ev
namespace Go.Proofs.YtdlohaedegmiaaaGreatDoor.Ev
section
variable {a b : Int} {k : AV → ab}
end
end Go.Proofs.YtdlohaedegmiaaaGreatDoor.Ev
namespace Go.Proofs.YtdlohaedegmiaaaGreatDoor.Ev
noncomputable def jN (r : ab) : Option AV := ab.rec (motive := fun _ => Option AV) (fun _ _ => none) (fun _ _ _ => none) (fun _ _ => none) (fun v _ => some v) none r
theorem a5p {r : ab} {v : AV} (h : jN r = some v) : ∃ hp, r = .val v hp := by
  cases r with
  | val w hp => exact ⟨hp, by injection h with h; rw [h]⟩
  | _ => exact absurd h (by intro h; injection h)
section
variable {p : Prop} [Decidable p] {hp : Hp} {s : (AV → Hp → ab) → ab} {k : AV → Hp → ab}
end
def gA (c : UInt8) : Bool := Nat.beq c.toNat 45 || (Nat.ble 48 c.toNat && Nat.ble c.toNat 57)
noncomputable def dY (l : List UInt8) : Nat := List.rec (motive := fun _ => Nat) 0 (fun c _ ih => Bool.rec (motive := fun _ => Nat) 0 (Nat.succ ih) (gA c)) l
noncomputable def ixN (l : List UInt8) : Int := Bool.rec (motive := fun _ => Int) (dY l : Int) (-1) (Nat.beq (dY l) l.length)
noncomputable section
def ixfF (clo : Nat) : ao := ⟨fun l hp => fT l fun a r => fT r fun f r => qB r (a.bW fun s n => f.tO fun g _ c x y => aq (Nat.beq g 3) (aq (Nat.beq c clo) (aq (Nat.beq x 0) (aq (Nat.beq y 0) (aq (Nat.ble n 4294967280) (.val (I (ixN (tR n s))) hp))))))⟩
def bD (c : UInt8) (l : List UInt8) : List (List UInt8) := List.rec (motive := fun _ => List (List UInt8)) [[]] (fun b _ ih => Bool.rec (motive := fun _ => List (List UInt8)) (List.rec (motive := fun _ => List (List UInt8)) [[b]] (fun p r _ => (b :: p) :: r) ih) ([] :: ih) (Nat.beq b.toNat c.toNat)) l
def vF : ao := ⟨fun l hp => fT l fun a r => fT r fun b r => qB r (a.bW fun s n => b.bW fun t m => aq (Nat.beq m 1) (aq (Nat.ble n 4294967280) (
  let ps := bD t.toUInt8 (tR n s)
  (a2d mem 1 ps.length).f (wP (ps.map S)) .lf 0 fun t => (jr mem).f hp (.row true true 1 ps.length t) fun id hp => .val (.ms id 0 ps.length 1) hp)))⟩
end
noncomputable section
def jG (o : Option AV) : Option (List UInt8 × Nat) := match o with
  | some (.bM (.nd (.str s n) _ (.nd (.int i c) _ .lf)) _) => if i = 3 ∧ c ≤ 1000 ∧ n ≤ 1000000 then some (tR n s, c) else none
  | _ => none
def sOf (o : Option AV) : Option (List UInt8) := match o with
  | some (.str s n) => if n ≤ 1000000 then some (tR n s) else none
  | _ => none
def bOf (o : Option AV) : Option Bool := match o with
  | some (.bool b) => some b
  | _ => none
def slF (v : AV) : Bool := match v with
  | .vs .. => true
  | .x g .. => decide (g = 6 ∨ g = 8)
  | _ => false
def uB (v : AV) : Bool := match v with
  | .agg (.nd a _ (.nd b _ (.nd c _ .lf))) n => decide (n = 3) && slF a && slF b && slF c
  | _ => false
def mkF (v : AV) : Bool := match v with
  | .agg (.nd (.int i0 _) _ (.nd (.int i1 _) _ (.nd (.int i2 _) _ (.nd (.int i3 _) _ (.nd (.int i4 _) _ (.nd (.int i5 _) _ (.nd (.int i6 _) _ .lf))))))) n => decide (n = 7 ∧ i0 = 3 ∧ i1 = 3 ∧ i2 = 3 ∧ i3 = 3 ∧ i4 = 4 ∧ i5 = 3 ∧ i6 = 4)
  | _ => false
def lO (v : AV) : Option (AV × AV × AV) := match v with
  | .agg (.nd (.int i0 a) _ (.nd (.int i1 b) _ (.nd (.int i2 c) _ .lf))) n => if n = 3 ∧ i0 = 4 ∧ i1 = 3 ∧ i2 = 3 then some (.int 4 a, .int 3 b, .int 3 c) else none
  | _ => none
def gS (v : AV) : Option (Row × Nat × Nat) := match v with
  | .vs t o n z => if z = 7 then some (t, o, n) else none
  | .x g .. => if g = 6 ∨ g = 8 then some (.lf, 0, 0) else none
  | _ => none
def uy (word f u : List UInt8) : List UInt8 := [101, 110, 100, 101, 100, 32] ++ word ++ [44, 32, 102, 97, 105, 108, 105, 110, 103, 32] ++ f ++ [44, 32, 117, 115, 101, 100, 32] ++ u ++ [10]
def iM (line : ao) (m : AV) (t : Row) (o : Nat) : Nat → Nat → List UInt8 → Option (List UInt8 × Nat)
  | 0, _, acc => some (acc, 0)
  | k + 1, i, acc => if mkF (t.at (o + i)) then match jG (jN (line.f (.nd m .lf (.nd (t.at (o + i)) .lf .lf)) .empty)) with
    | none => none
    | some (s, c) => if c = 0 then iM line m t o k (i + 1) (acc ++ (s ++ [10])) else some ([], c) else none
def fR (right outc whole : ao) (x a b c : AV) (acc : List UInt8) : Option (List UInt8 × Nat) :=
  match bOf (jN (right.f (.nd x .lf .lf) .empty)) with
  | none => none
  | some false => some ([], 8)
  | some true => match jG (jN (outc.f (.nd a .lf .lf) .empty)) with
    | none => none
    | some (word, z) => if z = 0 then match sOf (jN (whole.f (.nd b .lf .lf) .empty)) with
      | none => none
      | some f => match sOf (jN (whole.f (.nd c .lf .lf) .empty)) with
        | none => none
        | some u => some (acc ++ uy word f u, 0) else some ([], z)
def fS (line right outc whole : ao) (m a x : AV) : Option (List UInt8 × Nat) :=
  match gS a with
  | none => none
  | some (t, o, n) => if uB m then match lO x with
    | none => none
    | some (xa, xb, xc) => if 2000 < n then some ([], 4) else match iM line m t o n 0 [] with
      | none => none
      | some (acc, c) => if c = 0 then fR right outc whole x xa xb xc acc else some ([], c) else none
def a3l (line right outc whole : ao) : ao := ⟨fun l hp => match l with
  | .nd m _ (.nd a _ (.nd x _ .lf)) => match hp with
    | ⟨.lf, 0, [], 0⟩ => match fS line right outc whole m a x with
      | some (T, z) => .val (.bM (.nd (S T) .lf (.nd (I z) .lf .lf)) 2) ⟨.lf, 0, [], 0⟩
      | none => .fail
    | _ => .fail
  | _ => .fail⟩
end
end Go.Proofs.YtdlohaedegmiaaaGreatDoor.Ev
