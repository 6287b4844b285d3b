import Derived.Test.YtpiokjcbadfalaaGreatDoorEvAA
import Derived.Test.YtpiokjcbadfalaaGreatDoorEvAN
import Derived.Test.YtpiokjcbadfalaaGreatDoorEvAO
import Derived.Test.YtpiokjcbadfalaaGreatDoorEvAQ
import Derived.Test.YtpiokjcbadfalaaGreatDoorEvAW
import Derived.Test.YtpiokjcbadfalaaGreatDoorEvAY
import Derived.Shelf.Strings.Builder1
import Derived.Shelf.Small.Strs
import Derived.Shelf.Small.Wraps
import Derived.Shelf.Strings.BuilderF
import Derived.Shelf.Strings.BuilderK
import Derived.Shelf.Utf8.RuneCount
import Derived.Shelf.Strings.Search1
import Derived.Shelf.Strings.Search2
import Derived.Shelf.Strings.Search3
import Derived.Shelf.Strings.Cut
import Derived.Shelf.Strings.Count
import Derived.Shelf.LaysM
import Derived.Shelf.Strings.Shaped
import Derived.Shelf.Strings.LastIndex
import Derived.Shelf.Strings.LastIndexAll
import Derived.Shelf.GgClosure.StringsIndexFunc
import Derived.Ground.GgwProg
import Derived.Shelf.GgClosure.StringsIndexFuncTop
import Derived.Shelf.GgClosure.StringsRunes
import Derived.Shelf.Strings.Prefix
import Derived.Shelf.Strings.Split
import Derived.Shelf.Strings.SplitShaped
import Derived.Shelf.Unicode.Decode
import Derived.Shelf.Strings.RuneCount
import Derived.Shelf.Strings.Explode
import Derived.Shelf.Unicode.DecodeSlow
import Derived.Shelf.Unicode.DecodeAny
import Derived.Shelf.Strings.FuncGrows
import Derived.Shelf.Strings.BuilderCap
import Derived.Shelf.Slices.Turned
import Derived.Ground.PaProg
import Derived.Shelf.Path.Small
import Derived.Shelf.Small.Bits
import Derived.Shelf.Strconv.Atoi
import Derived.Shelf.Strconv.Itoa0
import Derived.Shelf.Strconv.Itoa1
import Derived.Shelf.Strconv.Itoa2
import Derived.Shelf.Strconv.Itoa3
import Derived.Shelf.Strconv.AtoiErrFast
import Derived.Shelf.Strconv.ParseIntEmpty
import Derived.Shelf.Strconv.AtoiFail
import Derived.Shelf.Strconv.Clone
import Derived.Shelf.Strconv.SyntaxError
import Derived.Shelf.LaysC
import Derived.Shelf.Strconv.ToError
import Derived.Shelf.Strconv.AtoiErr
import Derived.Shelf.Strings.Fields
import Derived.Shelf.Unicode.Latin
import Derived.Shelf.Unicode.Is16White
import Derived.Shelf.Unicode.IsSpaceAny
import Derived.Shelf.Unicode.Is16Any
import Derived.Shelf.Unicode.Is32Any
import Derived.Shelf.Unicode.ExclAny
import Derived.Ground.Names2Prog
import Derived.Shelf.Slices.CompactI
import Derived.Shelf.Slices.SearchI
import Derived.Shelf.Slices.Cells
import Derived.Test.YtpiokjcbadfalaaGreatDoorProg
import Derived.StillTailTactics
import Derived.WalkKit
import Derived.WalkSpells
import Derived.WalkLawsBesides
import Derived.Lib.Hide
import Derived.BigQuiet
import Derived.WalkSmall
import Derived.Laws.Concat
import Derived.KernelRfl
namespace Go.Proofs
open Go.Shelf
set_option maxRecDepth 100000
def Tryz.uI : Go.Shelf.Ren := ⟨fun | 166=>25 | 240=>46 | 276=>68 | n=>n,fun | 70=>72 | 72=>75 | 37=>73 | 75=>77 | 80=>81 | 164=>155 | n=>n,fun | n=>n⟩
theorem Tryz.ajF : Go.Proofs.Lays.n166 Tryz.prog Tryz.uI := by constructor <;> first | kernel_rfl | (intros; kernel_rfl)
theorem Tryz.rh : Builder.Extra Tryz.prog Tryz.uI := {
  sizeBuilder := by kernel_rfl
  liesBuilder := by kernel_rfl
  t5 := Tryz.underlying5
  a5 := Tryz.isAgg5
  z5 := Tryz.sizeOf5
  v5 := Tryz.zeroValue5
  infoByte := by kernel_rfl
  cellsByte := by kernel_rfl
  sizeByte := by kernel_rfl
  neB5 := by decide }
open Go.RowKit in
theorem Tryz.Builder_WriteString_k (B b : Nat) (bs : List Value) (s : ByteArray) (w : World) (h : Lib.IsBuilderF 75 5 B b bs w) (hlen : bs.length + s.size ≤ 140737488355328) (hBw : B ≤ w.heap.size) :
    Calls Tryz.prog 25 #[.pointer (some ⟨b,0,none⟩),.string s] w fun e w'=>e = .returned (.tuple #[.int .i64 s.size,.nilIface]) ∧ (Lib.BuilderAtF 75 5 B b (.pointer (some ⟨b,0,none⟩)) (bs ++ Lib.strCells s) w' ∧ Below B w w' ∧ Lib.OthersKept 5 (some b) w w') := Any.Builder_WriteString_k Tryz.ajF Tryz.rh B b bs s w h hlen hBw
def Tryz.uJ : Go.Shelf.Ren := ⟨fun | 169=>27 | n=>n,fun | 70=>72 | 9=>9 | 0=>0 | 72=>75 | 37=>73 | 127=>118 | 3=>3 | 5=>5 | n=>n,fun | n=>n⟩
theorem Tryz.ajG : Go.Proofs.Lays.n169 Tryz.prog Tryz.uJ := by constructor <;> first | kernel_rfl | (intros; kernel_rfl)
theorem Tryz.ri : Builder.Extra Tryz.prog Tryz.uJ := {
  sizeBuilder := by kernel_rfl
  liesBuilder := by kernel_rfl
  t5 := Tryz.underlying5
  a5 := Tryz.isAgg5
  z5 := Tryz.sizeOf5
  v5 := Tryz.zeroValue5
  infoByte := by kernel_rfl
  cellsByte := by kernel_rfl
  sizeByte := by kernel_rfl
  neB5 := by decide }
def Tryz.a4u : Go.Shelf.Ren := ⟨fun | 103=>41 | 210=>65 | 206=>107 | n=>n,fun | 9=>9 | 4=>4 | 24=>114 | 3=>3 | n=>n,fun | n=>n⟩
theorem Tryz.ajA : Go.Proofs.Lays.n103 Tryz.prog Tryz.a4u := by constructor <;> first | kernel_rfl | (intros; kernel_rfl)
open Go.RowKit in
theorem Tryz.strings_CutPrefix (s p : ByteArray) (w : World) :
    Calls Tryz.prog 41 #[.string s,.string p] w fun e w'=>e = .returned (.tuple #[.string ⟨(Lib.trimPrefix s.data.toList p.data.toList).toArray⟩,.bool (Lib.hasPrefix s.data.toList p.data.toList)]) ∧ w' = w := Any.strings_CutPrefix Tryz.ajA s p w
open Go.RowKit in
theorem Tryz.Builder_String_any_k (B b : Nat) (l : List UInt8) (w : World) (h : Lib.IsBuilderF 75 5 B b (Lib.byteCells l) w) (hBw : B ≤ w.heap.size) :
    Calls Tryz.prog 27 #[.pointer (some ⟨b,0,none⟩)] w fun e w'=>e = .returned (.string ⟨l.toArray⟩) ∧ (Lib.IsBuilderF 75 5 B b (Lib.byteCells l) w' ∧ Below B w w' ∧ Lib.OthersKept 5 (some b) w w') := Any.Builder_String_any_k Tryz.ajG Tryz.ri B b l w h hBw
def Tryz.a4A : Go.Shelf.Ren := ⟨fun | 217=>108 | 266=>143 | n=>n,fun | 9=>9 | 5=>5 | 3=>3 | n=>n,fun | n=>n⟩
theorem Tryz.ajI : Go.Proofs.Lays.n217 Tryz.prog Tryz.a4A := by constructor <;> first | kernel_rfl | (intros; kernel_rfl)
open Go.RowKit Go.Lib in
theorem Tryz.stringslite_IndexByte (s : ByteArray) (c : Int) (w : World) :
    Calls Tryz.prog 108 #[.string s,.int .u8 c] w fun e w'=>e = .returned (.int .i64 (Lib.indexByte s.data.toList c.toNat.toUInt8)) ∧ w' = w := Any.stringslite_IndexByte Tryz.ajI s c w
def Tryz.a4w : Go.Shelf.Ren := ⟨fun | 145=>22 | 220=>44 | 219=>67 | 217=>108 | 225=>109 | 224=>110 | 267=>111 | 266=>143 | 314=>144 | n=>n,fun | 9=>9 | 4=>4 | 59=>68 | 3=>3 | 5=>5 | 46=>148 | 146=>153 | 51=>152 | n=>n,fun | 1=>0 | n=>n⟩
theorem Tryz.ajC : Go.Proofs.Lays.n145 Tryz.prog Tryz.a4w := by constructor <;> first | kernel_rfl | (intros; kernel_rfl)
open Go.RowKit Go.Lib in
theorem Tryz.strings_Cut (s sep : ByteArray) (m : Int) (w : World) (hs : s.size < 4294967281) (hm : w.cell? ⟨0,0,none⟩ = some (.int .i64 m)) :
    Calls Tryz.prog 22 #[.string s,.string sep] w fun e w'=>e = .returned (.tuple #[.string ⟨(Lib.cut s.data.toList sep.data.toList).1.toArray⟩,.string ⟨(Lib.cut s.data.toList sep.data.toList).2.1.toArray⟩,.bool (Lib.cut s.data.toList sep.data.toList).2.2]) ∧ ∃ n,w' = w.drewN n := Any.strings_Cut Tryz.ajC s sep m w hs hm
def Tryz.a4y : Go.Shelf.Ren := ⟨fun | 148=>21 | 222=>42 | 223=>43 | 269=>66 | n=>n,fun | 9=>9 | 3=>3 | 4=>4 | 5=>5 | 146=>153 | 51=>152 | 46=>148 | n=>n,fun | n=>n⟩
theorem Tryz.ajE : Go.Proofs.Lays.n148 Tryz.prog Tryz.a4y := by constructor <;> first | kernel_rfl | (intros; kernel_rfl)
open Go.RowKit Go.Lib in
theorem Tryz.strings_LastIndex (s sub : ByteArray) (hs : s.size < 4611686018427387904) (w : World) :
    Calls Tryz.prog 21 #[.string s,.string sub] w fun e w'=>e = .returned (.int .i64 (Lib.lastIndex s.data.toList sub.data.toList)) ∧ w' = w := Any.strings_LastIndex Tryz.ajE s sub hs w
def Tryz.a1v : Go.Shelf.Ren := ⟨fun | 15=>38 | 20=>63 | n=>n,fun | 9=>9 | 23=>111 | 3=>3 | 4=>4 | 0=>0 | 21=>21 | n=>n,fun | n=>n⟩
theorem Tryz.afz : Go.Proofs.LaysGw.n15 Tryz.prog Tryz.a1v := by constructor <;> first | kernel_rfl | (intros; kernel_rfl)
open Go.RowKit Go.Lib in
theorem Tryz.strings_IndexFunc_runes (g : Nat) (lb : Array Value) (eg : ∀ args w,(callFunc g args).run Tryz.prog w = .ok (.enter g args) w) (p : Nat → Bool) (s : ByteArray) (w : World) (hp : PredAtRunes Tryz.prog g lb p w) :
    Calls Tryz.prog 38 #[.string s,.func (.func g) #[] lb] w fun e w'=>e = .returned (.int .i64 (Lib.idxFunc p true s)) ∧ Below w.heap.size w w' := Any.strings_IndexFunc_runes Tryz.afz g lb eg p s w hp
def Tryz.a4x : Go.Shelf.Ren := ⟨fun | 146=>28 | 221=>47 | 268=>69 | 138=>70 | 143=>71 | 195=>112 | 197=>113 | 218=>114 | 219=>67 | 260=>145 | 217=>108 | 225=>109 | 224=>110 | 267=>111 | 266=>143 | 314=>144 | n=>n,fun | 9=>9 | 31=>23 | 3=>3 | 4=>4 | 0=>0 | 105=>206 | 21=>21 | 5=>5 | 46=>148 | 119=>208 | 139=>311 | 138=>310 | 146=>153 | 51=>152 | n=>n,fun | 1=>0 | 3=>3 | 4=>4 | n=>n⟩
theorem Tryz.ajD : Go.Proofs.Lays.n146 Tryz.prog Tryz.a4x := by constructor <;> first | kernel_rfl | (intros; kernel_rfl)
open Go.RowKit Go.Lib in
theorem Tryz.strings_Split (s sep : ByteArray) (m : Int) (w : World) (hs : s.size < 4294967281) (hm : w.cell? ⟨0,0,none⟩ = some (.int .i64 m)) (h1 : 1 ≤ sep.size) :
    Calls Tryz.prog 28 #[.string s,.string sep] w fun e w'=>
      e = .returned (.slice (some ⟨w.heap.size,0,none⟩) (Lib.countB s sep + 1) (Lib.countB s sep + 1)) ∧ w' = w.alloc (.cells ((Lib.splitB sep 0 (Lib.countB s sep) s).map Value.string).toArray 9) := Any.strings_Split Tryz.ajD (by kernel_rfl) s sep m w hs hm h1
def Tryz.a4z : Go.Shelf.Ren := ⟨fun | 172=>73 | 244=>117 | 245=>118 | 247=>147 | 279=>148 | 280=>149 | 281=>150 | 282=>151 | 287=>193 | 316=>194 | 171=>75 | 205=>195 | 321=>262 | 322=>263 | 243=>119 | 246=>152 | 283=>196 | 284=>197 | 285=>198 | 286=>199 | 129=>265 | 317=>264 | 318=>266 | 319=>267 | 320=>268 | 337=>302 | 338=>303 | n=>n,fun | 9=>9 | 3=>3 | 75=>77 | 76=>78 | 4=>4 | 5=>5 | 167=>255 | 37=>73 | 0=>0 | 85=>256 | 2=>2 | 168=>258 | 53=>87 | 175=>323 | 46=>148 | 210=>327 | 127=>118 | 145=>404 | 143=>402 | 21=>21 | 171=>329 | 173=>332 | 212=>406 | 51=>152 | 20=>20 | 213=>407 | 232=>452 | 233=>202 | 80=>81 | n=>n,fun | 15=>5 | 16=>6 | 17=>7 | 18=>8 | 19=>9 | n=>n⟩
theorem Tryz.ajH : Go.Proofs.Lays.n172 Tryz.prog Tryz.a4z := by constructor <;> first | kernel_rfl | (intros; kernel_rfl)
open Go.RowKit in
theorem Tryz.strconv_Atoi (s : ByteArray) (n : Int) (hl : s.size ≤ 18) (h : Lib.atoi s.data.toList = some n) (w : World) :
    Calls Tryz.prog 73 #[.string s] w fun e w'=>e = .returned (.tuple #[.int .i64 n,.nilIface]) ∧ ∃ t,w' = Lib.bytesWorld w 5 t := Any.strconv_Atoi Tryz.ajH s n hl h w
def Tryz.a1u : Go.Shelf.Ren := ⟨fun | 172=>73 | 244=>117 | 245=>118 | 247=>147 | 279=>148 | 280=>149 | 281=>150 | 282=>151 | 287=>193 | 316=>194 | 171=>75 | 205=>195 | 321=>262 | 322=>263 | 243=>119 | 246=>152 | 283=>196 | 284=>197 | 285=>198 | 286=>199 | 129=>265 | 317=>264 | 318=>266 | 319=>267 | 320=>268 | 337=>302 | 338=>303 | n=>n,fun | 9=>9 | 3=>3 | 75=>77 | 76=>78 | 4=>4 | 5=>5 | 167=>255 | 37=>73 | 0=>0 | 85=>256 | 2=>2 | 168=>258 | 53=>87 | 175=>323 | 46=>148 | 210=>327 | 127=>118 | 145=>404 | 143=>402 | 21=>21 | 171=>329 | 173=>332 | 212=>406 | 51=>152 | 20=>20 | 213=>407 | 232=>452 | 233=>202 | 80=>81 | n=>n,fun | 15=>5 | 16=>6 | 17=>7 | 18=>8 | 19=>9 | n=>n⟩
theorem Tryz.afy : Go.Proofs.LaysC.n172 Tryz.prog Tryz.a1u := by repeat' first | kernel_rfl | (intro w; kernel_rfl) | constructor
open Go.RowKit in
theorem Tryz.strconv_Atoi_err (s : ByteArray) (hl : s.size ≤ 18) (h : Lib.atoi s.data.toList = none) (ev : Value) (w : World) (hv : w.cell? ⟨5,0,none⟩ = some ev) (hev : ev = .nilIface ∨ ∃ te pe,ev = .iface te pe) :
    Calls Tryz.prog 73 #[.string s] w fun e w'=>∃ N,e = .returned (.tuple #[.int .i64 0,.iface 258 (.pointer (some ⟨N,0,none⟩))]) ∧ w.heap.size ≤ N ∧ w'.heap[N]? = some (.cells #[.string ⟨#[65,116,111,105]⟩,.string s,ev] 327 (0,0)) ∧ Below w.heap.size w w' := Any.strconv_Atoi_err Tryz.afy s hl h ev w hv hev
def Tryz.a4B : Go.Shelf.Ren := ⟨fun | 219=>67 | 217=>108 | 225=>109 | 224=>110 | 267=>111 | 266=>143 | 314=>144 | n=>n,fun | 9=>9 | 3=>3 | 4=>4 | 5=>5 | 46=>148 | 146=>153 | 51=>152 | n=>n,fun | 1=>0 | n=>n⟩
theorem Tryz.ajJ : Go.Proofs.Lays.n219 Tryz.prog Tryz.a4B := by constructor <;> first | kernel_rfl | (intros; kernel_rfl)
open Go.RowKit Go.Lib in
theorem Tryz.stringslite_Index (s sub : ByteArray) (m : Int) (w : World) (hs : s.size < 4294967281) (hm : w.cell? ⟨0,0,none⟩ = some (.int .i64 m)) :
    Calls Tryz.prog 67 #[.string s,.string sub] w fun e w'=>e = .returned (.int .i64 (Lib.index s.data.toList sub.data.toList)) ∧ w' = w := Any.stringslite_Index Tryz.ajJ s sub m w hs hm
def Tryz.a4v : Go.Shelf.Ren := ⟨fun | 138=>70 | 195=>112 | 218=>114 | 143=>71 | 219=>67 | 217=>108 | 225=>109 | 224=>110 | 267=>111 | 266=>143 | 314=>144 | n=>n,fun | 9=>9 | 3=>3 | 4=>4 | 5=>5 | 0=>0 | 46=>148 | 146=>153 | 51=>152 | n=>n,fun | 1=>0 | n=>n⟩
theorem Tryz.ajB : Go.Proofs.Lays.n138 Tryz.prog Tryz.a4v := by constructor <;> first | kernel_rfl | (intros; kernel_rfl)
open Go.RowKit Go.Lib in
theorem Tryz.strings_Count_one (s : ByteArray) (c : UInt8) (w : World) :
    Calls Tryz.prog 70 #[.string s,.string ⟨#[c]⟩] w fun e w'=>e = .returned (.int .i64 (Lib.countByte s.data.toList c)) ∧ w' = w := Any.strings_Count_one Tryz.ajB s c w
end Go.Proofs
open Go Go.Proofs.YtpiokjcbadfalaaGreatDoor.Ev
namespace Go.Proofs.YtpiokjcbadfalaaGreatDoor.Tz
section
variable {vs : Vs} (hG : vs.G = GW 1 0 5)
theorem h108 : ao ⟨Tryz.prog,vs⟩ 108 idxF := ajq ⟨_,Tryz.func108,by kernel_rfl,by kernel_rfl⟩ fun s c w=>Tryz.stringslite_IndexByte s c w
theorem h70 {G : aF} (h : ao ⟨Tryz.prog,vs⟩ 70 G) : ao ⟨Tryz.prog,vs⟩ 70 (cntG G) := aiI h (fun s c w=>Tryz.strings_Count_one s c w) ⟨_,Tryz.func70,by kernel_rfl,by kernel_rfl⟩
theorem h41 : ao ⟨Tryz.prog,vs⟩ 41 adr := ads ⟨_,Tryz.func41,by kernel_rfl,by kernel_rfl⟩ fun s p w=>Tryz.strings_CutPrefix s p w
theorem h21 : ao ⟨Tryz.prog,vs⟩ 21 afu := afv ⟨_,Tryz.func21,by kernel_rfl,by kernel_rfl⟩ fun s t w hs=>Tryz.strings_LastIndex s t hs w
include hG
theorem h22 : ao ⟨Tryz.prog,vs⟩ 22 cutF := aiT ⟨_,Tryz.func22,by kernel_rfl,by kernel_rfl⟩ fun s t w F hg hs=>by
  obtain ⟨h1,_⟩ := hg
  have h1' : vs.G w := h1
  rw [hG] at h1'
  obtain ⟨_,⟨m,hm⟩,_⟩ := h1'
  exact (Tryz.strings_Cut s t m w hs hm).mono fun e w' ⟨h1,n,h2⟩=>⟨h1,by rw [h2]; exact ⟨rfl,rfl,rfl,Nat.le_refl _,fun _ _=>rfl⟩⟩
theorem h67 : ao ⟨Tryz.prog,vs⟩ 67 subF := aks ⟨_,Tryz.func67,by kernel_rfl,by kernel_rfl⟩ fun s m w F hg hs=>by
  obtain ⟨h1,_⟩ := hg
  have h1' : vs.G w := h1
  rw [hG] at h1'
  obtain ⟨_,⟨k,hk⟩,_⟩ := h1'
  exact Tryz.stringslite_Index s m k w hs hk
theorem h73 : ao ⟨Tryz.prog,vs⟩ 73 (atoF 258) := by
  refine ail ⟨_,Tryz.func73,by kernel_rfl,by kernel_rfl⟩ (fun s n w hl h=>(Tryz.strconv_Atoi s n hl h w).mono fun e w' ⟨h1,t,h2⟩=>⟨h1,by rw [h2]; exact Lib.bytesWorld_below w 5 t⟩) fun s w F hg hl h=>?_
  obtain ⟨h1,_⟩ := hg
  have h1' : vs.G w := h1
  rw [hG] at h1'
  obtain ⟨_,_,ev,he,hx⟩ := h1'
  exact (Tryz.strconv_Atoi_err s hl h ev w he hx).mono fun e w' ⟨N,e1,_,_,hb⟩=>⟨⟨_,e1⟩,hb⟩
end
end Go.Proofs.YtpiokjcbadfalaaGreatDoor.Tz
namespace Go.Proofs.YtpiokjcbadfalaaGreatDoor.Tz
open Go.RowKit
abbrev Grow (w w' : World) : Prop := Below w.heap.size w w'
theorem a8T {w : World} {p : Addr} {v : Value} (h : w.cell? p = some v) : p.block < w.heap.size := by
  simp only [World.cell?] at h
  split at h
  · rename_i heq
    exact (Array.getElem?_eq_some_iff.1 heq).1
  · cases h
theorem _root_.Go.RowKit.Below.keep {w w' : World} (g : Grow w w') {p : Addr} {v : Value} (h : w.cell? p = some v) : w'.cell? p = some v := by
  rw [g.cell (a8T h)]; exact h
theorem _root_.Go.RowKit.Below.then {w w1 w2 : World} (g : Grow w w1) (h : Grow w1 w2) : Grow w w2 := g.trans (h.mono g.size)
theorem _root_.Go.RowKit.Below.tq {w w' : World} (g : Grow w w') (o : Obj) : Grow w (w'.alloc o) := g.alloc g.size o
structure rk (w : World) where
  w' : World
  h : Grow w w'
theorem Calls.later {P : Program} {f : FuncId} {args : Array Value} {w : World} {d : rk w} {v : Value}
    (h : Calls P f args d.w' fun e w'=>e = .returned v ∧ Grow d.w' w') : Calls P f args d.w' fun e w''=>e = .returned v ∧ ∃ d' : rk w,w'' = d'.w' :=
  h.mono fun _ w' ⟨he,hg⟩=>⟨he,⟨w',d.h.then hg⟩,rfl⟩
def Has (w : World) (b off : Nat) (cs : List Value) : Prop := ∀ j v,cs[j]? = some v → w.cell? ⟨b,off + j,none⟩ = some v
theorem Has.grow {w w' : World} {b off : Nat} {cs : List Value} (h : Has w b off cs) (g : Grow w w') : Has w' b off cs :=
  fun j v hj=>g.keep (h j v hj)
instance {w : World} : Nonempty (rk w) := ⟨⟨w,Below.refl _ _⟩⟩
end Go.Proofs.YtpiokjcbadfalaaGreatDoor.Tz
namespace Go.Proofs.YtpiokjcbadfalaaGreatDoor.Tz
open Go.RowKit
section
variable {P : Program} {ops : Array Oper} {md : Region.Mode} {C : World → Prop}
def gO (P : Program) (md : Region.Mode) (ops : Array Oper) (C : World → Prop) (n : Nat) (L : Array Bool → Act → Prop) : Nat → Array Bool → Act → Prop
  | 0,seen,a=>L seen a
  | f + 1,seen,a=>Region.ready md ops seen ≠ [] ∧ ∀ i,i ∈ Region.ready md ops seen → i < n ∧ qOp P ops C i (gO P md ops C n L f (seen.setIfInBounds i true)) a
theorem gO.wpAny {n g : Nat} {L : Array Bool → Act → Prop} {Q : Exit → Act → World → Prop} (hL : ∀ seen a w,C w → L seen a → wpAny P md ops Q g seen a w) (f : Nat) :
    ∀ (seen : Array Bool) (a : Act) (w : World),C w → gO P md ops C n L f seen a → wpAny P md ops Q (f + g) seen a w := by
  induction f with
  | zero=>intro seen a w hw h; rw [Nat.zero_add]; exact hL seen a w hw h
  | succ f ih=>
    intro seen a w hw h
    rw [Nat.succ_add]
    refine ⟨fun h0=>absurd h0 h.1,fun i hi=>?_⟩
    exact wpOp_of_qOp hw (fun a' w' hw' h'=>ih _ a' w' hw' h') (h.2 i hi).2
theorem gO.first {n i : Nat} {oi : Oper} {v : Value} {L : Array Bool → Act → Prop} (hi : ops[i]? = some oi) (hsel : ∀ (j : Nat) (o : Oper) cs b,ops[j]? = some o → o.op ≠ .select cs b)
    (hs : Region.sinkB md ops n = true) (hc : Region.chainB md ops n = true) (hn : n < ops.size) (hin : i < n)
    (hdone : ∀ seen a,L seen a → ∀ j,j ∈ Region.ready md ops seen → n ≤ j) (f : Nat) :
    ∀ (seen : Array Bool) (a : Act),HeadInv md ops n seen →
      (∀ j oj,ops[j]? = some oj → j ≠ i → seen.getD j true = false → (∀ e ∈ oj.after,Region.binds md e = true → e.on ≠ i) → oi.apart ops oj = true) →
      i ∈ Region.ready md ops seen → YieldsIn P ops C oi v a →
      gO P md ops C n L f (seen.setIfInBounds i true) (a.put oi.dst v) → gO P md ops C n L (f + 1) seen a := by
  induction f with
  | zero=>
    intro seen a inv _ hr hy H
    have hun := (mem_ready.1 hr).1
    refine ⟨List.ne_nil_of_mem hr,fun j hj=>?_⟩
    have hjn : j < n := Nat.lt_of_not_le fun h=>tail_waits hs hc hn inv _ i rfl hin hun j h hj
    refine ⟨hjn, ?_⟩
    by_cases hji : j = i
    · subst hji; exact hy.qOp hi H
    · exact absurd (hdone _ _ H j (ready_mono hj hji)) (Nat.not_le_of_lt hjn)
  | succ f ih=>
    intro seen a inv hfree hr hy H
    have hun := (mem_ready.1 hr).1
    refine ⟨List.ne_nil_of_mem hr,fun j hj=>?_⟩
    have hjn : j < n := Nat.lt_of_not_le fun h=>tail_waits hs hc hn inv _ i rfl hin hun j h hj
    refine ⟨hjn, ?_⟩
    by_cases hji : j = i
    · subst hji; exact hy.qOp hi H
    · have h1 := (H.2 j (ready_mono hj hji)).2
      obtain ⟨hjun,oj,hoj,hall⟩ := mem_ready.1 hj
      have hnot : ∀ e ∈ oj.after,Region.binds md e = true → e.on ≠ i := by
        intro e he hb heq
        have h2 := hall e he hb
        rw [heq,getD_both hun] at h2
        cases h2
      have h2 := qOp_put hoj (hfree j oj hoj hji hjun hnot) (fun cs b=>hsel i oi cs b hi) (fun cs b=>hsel j oj cs b hoj) hy h1
      refine qOp_mono (fun a' h3=>ih (seen.setIfInBounds j true) a' (inv.set hj hjn) ?_ (ready_mono hr (Ne.symm hji)) h3.1 ?_) h2
      · intro k ok hk hki hun' hno
        refine hfree k ok hk hki ?_ hno
        by_cases hjk : j = k
        · subst hjk; exact hjun
        · rw [getD_set_ne true hjk] at hun'; exact hun'
      · rw [Array.setIfInBounds_comm _ _ hji]
        exact h3.2
theorem gO.lex {n g : Nat} {K : Act → Prop} (hsel : Region.noSelect ops = true) (hs : Region.sinkB md ops n = true) (hc : Region.chainB md ops n = true) (hn : n < ops.size) (l : List Oper) :
    ∀ (k : Nat) (seen : Array Bool) (a : Act),(∀ j,j < l.length → l[j]? = ops[k + j]?) → k + l.length = n → HeadInv md ops n seen →
    Region.lexHead md ops g l.length k seen = true → wpQuiet P ops C K l a →
    gO P md ops C n (fun seen' a'=>Region.seqB md ops g n seen' = true ∧ K a') l.length seen a := by
  induction l with
  | nil=>
    intro k seen a _ hk _ hB h
    obtain rfl : k = n := by simpa using hk
    exact ⟨by simpa [Region.lexHead] using hB,h⟩
  | cons o l ih=>
    intro k seen a hl hk inv hB h
    have h0 : ops[k]? = some o := by simpa using (hl 0 (by simp)).symm
    simp only [List.length_cons,Region.lexHead,Bool.and_eq_true] at hB
    obtain ⟨⟨hr,hf⟩,hB'⟩ := hB
    simp only [List.length_cons] at hk
    have hkn : k < n := by omega
    have hr' : k ∈ Region.ready md ops seen := by simpa using hr
    have hst : qOp P ops C k (wpQuiet P ops C K l) a := by unfold qOp; simp only [h0]; exact h
    obtain ⟨v,hy,hK⟩ := yieldsIn_of_qOp h0 hst
    refine gO.first h0 (Region.noSelect_spec hsel) hs hc hn hkn (fun seen' a' hL=>seqB_ready hL.1) l.length seen a inv (Region.free_spec h0 hf) hr' hy ?_
    refine ih (k + 1) _ _ (fun j hj=>?_) (by omega) (inv.set hr' hkn) hB' hK
    have := hl (j + 1) (by simp; omega)
    simpa [Nat.add_assoc,Nat.add_comm 1 j] using this
theorem pk {id : Nat} {Q : Exit → Act → World → Prop} {a : Act} {w : World} {l : List Oper} (n : Nat) (hm : P.follows .mixedOrders = true) (hB : Region.lexTailB .any l.toArray n = true)
    (hC : C { w with drawn := w.drawn + 1 }) (h : wpQuiet P l.toArray C (fun a'=>∀ w',C w' → wpList P l.toArray Q (l.drop n) a' w') (l.take n) a) : (Code.region id l.toArray true).wp P Q a w := by
  simp only [Region.lexTailB,Bool.and_eq_true,decide_eq_true_eq] at hB
  obtain ⟨⟨⟨⟨hsel,hn⟩,hs⟩,hc⟩,hlex⟩ := hB
  have hn' : n < l.length := by simpa using hn
  have htl : (l.take n).length = n := by simp; omega
  have hdl : (l.drop n).length = l.toArray.size - n := by simp
  have inv0 : HeadInv .any l.toArray n (Array.replicate l.toArray.size false) :=
    ⟨by simp,fun j oj _ hl=>(by rw [getD_replicate_false] at hl; cases hl),fun t _ ht=>getD_in (by simpa using ht) (getD_replicate_false _ _)⟩
  have H := gO.lex (md := .any) (C := C) (g := l.toArray.size - n) hsel hs hc hn (l.take n) 0 _ a (fun j hj=>by
    have hj' : j < n := by rw [htl] at hj; exact hj
    simp [hj']) (by simpa using htl) inv0 (by rw [htl]; exact hlex) h
  refine wp_region_any hm ?_
  have := gO.wpAny (Q := Q) (g := l.toArray.size - n) (fun seen a' w' hw' hL=>by
    have := wpAny_of_seq (md := .any) (Q' := Q) (l.drop n) n seen a' w' (fun j=>by simp [List.getElem?_drop]) (by rw [hdl]; exact hL.1) (hL.2 w' hw')
    rwa [hdl] at this) _ _ _ _ hC H
  rw [htl,show n + (l.toArray.size - n) = l.toArray.size by omega] at this
  exact this
end
theorem pn {P : Program} {id : Nat} {Q : Exit → Act → World → Prop} {a : Act} {w : World} {l : List Oper} (n : Nat) (hm : P.follows .mixedOrders = true) (hB : Region.lexTailB .any l.toArray n = true)
    (h : wpQuiet P l.toArray (fun w'=>∃ d : rk w,w' = d.w') (fun a'=>∀ w',(∃ d : rk w,w' = d.w') → wpList P l.toArray Q (l.drop n) a' w') (l.take n) a) : (Code.region id l.toArray true).wp P Q a w :=
  pk n hm hB ⟨⟨_,(Below.refl _ _).drew⟩,rfl⟩ h
end Go.Proofs.YtpiokjcbadfalaaGreatDoor.Tz
namespace Go.Proofs.YtpiokjcbadfalaaGreatDoor.Tz
open Go.RowKit
structure MkV where
  a : Int
  b : Int
  c : Int
  d : Int
  e : Int
  f : Int
  g : Int
abbrev MkV.agg (x : MkV) : Value := .agg #[.int .i64 x.a,.int .i64 x.b,.int .i64 x.c,.int .i64 x.d,.int .u8 x.e,.int .i64 x.f,.int .u8 x.g]
def MkV.cells (x : MkV) : List Value := [.int .i64 x.a,.int .i64 x.b,.int .i64 x.c,.int .i64 x.d,.int .u8 x.e,.int .i64 x.f,.int .u8 x.g]
def yG (s : Nat → List UInt8) : Nat → List UInt8
  | 0=>[]
  | n + 1=>yG s n ++ (s n ++ [10])
abbrev a14 := Go.Proofs.YtpiokjcbadfalaaGreatDoor.Ev.a14
abbrev qV (l : List UInt8) : Value := .string ⟨l.toArray⟩
theorem akr (a b : List UInt8) : (⟨a.toArray⟩ ++ ⟨b.toArray⟩ : ByteArray) = ⟨(a ++ b).toArray⟩ := by
  apply ByteArray.ext
  simp [ByteArray.data_append]
theorem mL {P : Program} (a b : List UInt8) (h : a.length + b.length ≤ 9223372036854775807) (w : World) : (Op.stringOp .add ⟨a.toArray⟩ ⟨b.toArray⟩).run P w = .ok (qV (a ++ b)) w := by
  rw [run_string_add_sum (P := P) (w := w) ⟨a.toArray⟩ ⟨b.toArray⟩ (by simpa [ByteArray.size] using h),akr]
abbrev a5Q (l : List UInt8) (z : Int) : Value := .tuple #[qV l,.int .i64 z]
def nA (v : Value) (w : World) (e : Ending) (w' : World) : Prop := e = .returned v ∧ Grow w w'
theorem zd (l : List UInt8) : Lib.strCells ⟨l.toArray⟩ = Lib.byteCells l := by
  simp [Lib.strCells,Lib.byteCells]
theorem a2V {B b : Nat} {p : Value} {bs : List Value} {w w' : World} (h : Lib.BuilderAtF 75 5 B b p bs w) (g : Grow w w') : Lib.BuilderAtF 75 5 B b p bs w' := by
  obtain ⟨hB,v,hb,⟨h1,h2⟩,hne⟩ := h
  refine ⟨hB,v,(g.block b (Array.getElem?_eq_some_iff.1 hb).1).trans hb,⟨h1, ?_⟩,hne⟩
  rcases h2 with hn | ⟨g2,cap,cur,fz,e,hb2,hg2,r⟩
  · exact .inl hn
  · exact .inr ⟨g2,cap,cur,fz,e,hb2,(g.block g2 (Array.getElem?_eq_some_iff.1 hg2).1).trans hg2,r⟩
theorem wN {B b : Nat} {bs : List Value} {w w' : World} (h : Lib.IsBuilderF 75 5 B b bs w) (g : Grow w w') : Lib.IsBuilderF 75 5 B b bs w' := h.imp (fun h=>a2V h g) (fun h=>a2V h g)
theorem yt (B b : Nat) (l m : List UInt8) (w : World) (h : Lib.IsBuilderF 75 5 B b (Lib.byteCells l) w) (hlen : l.length + m.length ≤ 140737488355328) (hB : B ≤ w.heap.size) :
    Calls Tryz.prog 25 #[.pointer (some ⟨b,0,none⟩),qV m] w fun e w'=>e = .returned (.tuple #[.int .i64 m.length,.nilIface]) ∧ Lib.IsBuilderF 75 5 B b (Lib.byteCells (l ++ m)) w' ∧ Below B w w' := by
  refine (Tryz.Builder_WriteString_k B b (Lib.byteCells l) ⟨m.toArray⟩ w h (by rw [Lib.byteCells_length]; simpa [ByteArray.size] using hlen) hB).mono fun e w' ⟨h1,h2,h3,_⟩=>⟨?_,.inr ?_,h3⟩
  · rw [h1]; simp [ByteArray.size]
  · rw [zd] at h2
    have e : Lib.byteCells (l ++ m) = Lib.byteCells l ++ Lib.byteCells m := by simp [Lib.byteCells]
    rw [e]; exact h2
def MkAt (w : World) (q : Option Addr) (n : Nat) (M : Nat → MkV) (c : Nat → Int) : Prop := n ≤ 2000 → n = 0 ∨ ∃ b off,q = some ⟨b,off,none⟩ ∧ ∀ j,j < n → (∀ i,i < j → c i = 0) → Has w b (off + j * 7) (M j).cells
theorem Has.mk7 {w : World} {b off : Nat} {x : MkV} (h : Has w b off x.cells) : w.cell? ⟨b,off,none⟩ = some (.int .i64 x.a) ∧ w.cell? ⟨b,off + 1,none⟩ = some (.int .i64 x.b) ∧ w.cell? ⟨b,off + 2,none⟩ = some (.int .i64 x.c) ∧ w.cell? ⟨b,off + 3,none⟩ = some (.int .i64 x.d) ∧ w.cell? ⟨b,off + 4,none⟩ = some (.int .u8 x.e) ∧ w.cell? ⟨b,off + 5,none⟩ = some (.int .i64 x.f) ∧ w.cell? ⟨b,off + 6,none⟩ = some (.int .u8 x.g) :=
  ⟨h 0 _ rfl,h 1 _ rfl,h 2 _ rfl,h 3 _ rfl,h 4 _ rfl,h 5 _ rfl,h 6 _ rfl⟩
def Res9 (n : Nat) (s : Nat → List UInt8) (c : Nat → Int) (r : Bool) (word : List UInt8) (cw : Int) (f u T : List UInt8) (z : Int) : Prop :=
  (2000 < n → T = [] ∧ z = 4) ∧ (n ≤ 2000 → (∀ k,k < n → (∀ j,j < k → c j = 0) → c k ≠ 0 → T = [] ∧ z = c k) ∧ ((∀ j,j < n → c j = 0) → (r = false → T = [] ∧ z = 8) ∧ (r = true → (cw ≠ 0 → T = [] ∧ z = cw) ∧ (cw = 0 → T = yG s n ++ a14 word f u ∧ z = 0))))
theorem vW {s : Nat → List UInt8} (h : ∀ j,(s j).length ≤ 1000000) : ∀ n,(yG s n).length ≤ n * 1000001
  | 0=>Nat.zero_le _
  | n + 1=>by
    have := vW h n; have := h n
    simp only [yG,List.length_append,List.length_cons,List.length_nil]; omega
structure a2h (w : World) (p0 p1 p2 : Option Addr) (n0 n1 n2 k0 k1 k2 : Nat) (o xf xu : Int) (wr : World) : Prop where
  g : Grow w wr
  s : w.heap.size + 2 ≤ wr.heap.size
  m0 : wr.cell? ⟨w.heap.size,0,none⟩ = some (.slice p0 n0 k0)
  m1 : wr.cell? ⟨w.heap.size,1,none⟩ = some (.slice p1 n1 k1)
  m2 : wr.cell? ⟨w.heap.size,2,none⟩ = some (.slice p2 n2 k2)
  x0 : wr.cell? ⟨w.heap.size + 1,0,none⟩ = some (.int .u8 o)
  x1 : wr.cell? ⟨w.heap.size + 1,1,none⟩ = some (.int .i64 xf)
  x2 : wr.cell? ⟨w.heap.size + 1,2,none⟩ = some (.int .i64 xu)
theorem a2h.mono {w : World} {p0 p1 p2 : Option Addr} {n0 n1 n2 k0 k1 k2 : Nat} {o xf xu : Int} {wr wr' : World} (h : a2h w p0 p1 p2 n0 n1 n2 k0 k1 k2 o xf xu wr) (b : Below (w.heap.size + 2) wr wr') : a2h w p0 p1 p2 n0 n1 n2 k0 k1 k2 o xf xu wr' := by
  have k : ∀ (b' i : Nat) (v : Value),b' < w.heap.size + 2 → wr.cell? ⟨b',i,none⟩ = some v → wr'.cell? ⟨b',i,none⟩ = some v := fun b' i v hb hv=>by
    rw [b.cell hb]; exact hv
  exact ⟨h.g.trans (b.mono (by omega)),Nat.le_trans h.s b.size,k _ _ _ (by omega) h.m0,k _ _ _ (by omega) h.m1,k _ _ _ (by omega) h.m2,k _ _ _ (by omega) h.x0,k _ _ _ (by omega) h.x1,k _ _ _ (by omega) h.x2⟩
theorem a2h.grow {w : World} {p0 p1 p2 : Option Addr} {n0 n1 n2 k0 k1 k2 : Nat} {o xf xu : Int} {wr wr' : World} (h : a2h w p0 p1 p2 n0 n1 n2 k0 k1 k2 o xf xu wr) (b : Grow wr wr') : a2h w p0 p1 p2 n0 n1 n2 k0 k1 k2 o xf xu wr' := h.mono (b.mono h.s)
theorem three {w : World} {a b c : Value} {t : TypeId} : (w.alloc (.cells #[a,b,c] t)).cell? ⟨w.heap.size,0,none⟩ = some a ∧ (w.alloc (.cells #[a,b,c] t)).cell? ⟨w.heap.size,1,none⟩ = some b ∧ (w.alloc (.cells #[a,b,c] t)).cell? ⟨w.heap.size,2,none⟩ = some c := by
  have e : (w.alloc (.cells #[a,b,c] t)).heap[w.heap.size]? = some (.cells #[a,b,c] t) := Array.getElem?_push_size
  refine ⟨?_, ?_, ?_⟩ <;> (rw [Lib.cell_of_heap e]; rfl)
theorem a5z (w : World) (o : Obj) : (w.alloc o).heap.size = w.heap.size + 1 := Array.size_push _
theorem a7d (w : World) (p0 p1 p2 : Option Addr) (n0 n1 n2 k0 k1 k2 : Nat) (o xf xu : Int) (ob : Obj) : a2h w p0 p1 p2 n0 n1 n2 k0 k1 k2 o xf xu (((w.alloc (.cells #[.slice p0 n0 k0,.slice p1 n1 k1,.slice p2 n2 k2] 26)).alloc (.cells #[.int .u8 o,.int .i64 xf,.int .i64 xu] 29)).alloc ob) := by
  obtain ⟨a0,a1,a2⟩ := @three w (.slice p0 n0 k0) (.slice p1 n1 k1) (.slice p2 n2 k2) 26
  generalize hW1 : w.alloc (.cells #[.slice p0 n0 k0,.slice p1 n1 k1,.slice p2 n2 k2] 26) = W1 at a0 a1 a2
  have s1 : W1.heap.size = w.heap.size + 1 := by rw [← hW1,a5z]
  have g1 : Grow w W1 := by rw [← hW1]; exact (Below.refl _ _).tq _
  obtain ⟨b0,b1,b2⟩ := @three W1 (.int .u8 o) (.int .i64 xf) (.int .i64 xu) 29
  generalize hW2 : W1.alloc (.cells #[.int .u8 o,.int .i64 xf,.int .i64 xu] 29) = W2 at b0 b1 b2
  have s2 : W2.heap.size = w.heap.size + 2 := by rw [← hW2,a5z,s1]
  have g2 : Grow W1 W2 := by rw [← hW2]; exact (Below.refl _ _).tq _
  have g3 : Grow W2 (W2.alloc ob) := (Below.refl _ _).tq _
  rw [s1] at b0 b1 b2
  exact ⟨g1.then (g2.then g3),by rw [a5z,s2]; omega,(g2.then g3).keep a0,(g2.then g3).keep a1,(g2.then g3).keep a2,g3.keep b0,g3.keep b1,g3.keep b2⟩
set_option maxRecDepth 100000 in
set_option maxHeartbeats 4000000 in
theorem kK (w : World) (p0 p1 p2 : Option Addr) (n0 n1 n2 k0 k1 k2 : Nat) (q : Option Addr) (n cap : Nat) (M : Nat → MkV) (o xf xu : Int) (s : Nat → List UInt8) (c : Nat → Int) (r : Bool) (word : List UInt8) (cw : Int) (f u T : List UInt8) (z : Int)
    (hM : MkAt w q n M c) (hs : ∀ j,(s j).length ≤ 1000000) (hw : word.length ≤ 1000000) (hf : f.length ≤ 1000000) (hu : u.length ≤ 1000000)
    (C5 : n ≤ 2000 → ∀ j,j < n → (∀ i,i < j → c i = 0) → ∀ w',Grow w w' → Calls Tryz.prog 6 #[.agg #[.slice p0 n0 k0,.slice p1 n1 k1,.slice p2 n2 k2],(M j).agg] w' (nA (a5Q (s j) (c j)) w'))
    (C33 : n ≤ 2000 → (∀ i,i < n → c i = 0) → ∀ w',Grow w w' → Calls Tryz.prog 26 #[.agg #[.int .u8 o,.int .i64 xf,.int .i64 xu]] w' (nA (.bool r) w'))
    (C20 : n ≤ 2000 → (∀ i,i < n → c i = 0) → r = true → ∀ w',Grow w w' → Calls Tryz.prog 19 #[.int .u8 o] w' (nA (a5Q word cw) w'))
    (C19 : n ≤ 2000 → (∀ i,i < n → c i = 0) → r = true → cw = 0 → ∀ w',Grow w w' → Calls Tryz.prog 18 #[.int .i64 xf] w' (nA (qV f) w') ∧ Calls Tryz.prog 18 #[.int .i64 xu] w' (nA (qV u) w'))
    (hR : Res9 n s c r word cw f u T z) :
    Calls Tryz.prog 8 #[.agg #[.slice p0 n0 k0,.slice p1 n1 k1,.slice p2 n2 k2],.slice q n cap,.agg #[.int .u8 o,.int .i64 xf,.int .i64 xu]] w (nA (a5Q T z) w) := by
  have HM := Lib.hid hM
  have HR := Lib.hid hR
  have K5 := Lib.hid C5
  have K33 := Lib.hid C33
  have K20 := Lib.hid C20
  have K19 := Lib.hid C19
  have HS := Lib.hid hs
  have HL := Lib.hid (And.intro hw (And.intro hf hu))
  clear hM hR C5 C33 C20 C19 hs hw hf hu
  by_cases hn : n ≤ 2000
  case neg=>
    obtain ⟨e1,e2⟩ := HR.out.1 (by omega)
    subst e1 e2
    have t1 : decide ((2000 : Int) < (n : Int)) = true := by simp; omega
    go_enter Tryz.func8,Tryz.ntmps8
    go_wp2_with fail
    go_ret2
    exact ⟨rfl,((Below.refl _ _).tq _).tq _⟩
  have t1 : decide ((2000 : Int) < (n : Int)) = false := by simp; omega
  have nb : n ≤ 9223372036854775807 := by omega
  go_enter Tryz.func8,Tryz.ntmps8
  go_wp2_with fail
  go_loopw [20] (fun i wr=>∃ k : Nat,k ≤ n ∧ i = .int .i64 k ∧ (∀ j,j < k → c j = 0) ∧ a2h w p0 p1 p2 n0 n1 n2 k0 k1 k2 o xf xu wr ∧ Lib.IsBuilderF 75 5 (w.heap.size + 2) (w.heap.size + 2) (Lib.byteCells (yG s k)) wr) (fun i _=>n - (intOf i).toNat)
  case atStart=>
    have hB := Lib.fresh_isBuilder 75 5 ((w.alloc (.cells #[.slice p0 n0 k0,.slice p1 n1 k1,.slice p2 n2 k2] 26)).alloc (.cells #[.int .u8 o,.int .i64 xf,.int .i64 xu] 29))
    rw [a5z,a5z] at hB
    refine ⟨0,Nat.zero_le _,rfl,fun j hj=>absurd hj (Nat.not_lt_zero _),a7d _ _ _ _ _ _ _ _ _ _ _ _ _ _, ?_⟩
    exact .of hB
  case round=>
    obtain ⟨k,hk,rfl,hz,hI,hB⟩ := hrel
    by_cases hlt : k < n
    · obtain ⟨b,off,rfl,hcs⟩ : ∃ b off,q = some ⟨b,off,none⟩ ∧ ∀ j,j < n → (∀ i,i < j → c i = 0) → Has w b (off + j * 7) (M j).cells := by
        rcases HM.out hn with e | e
        · omega
        · exact e
      obtain ⟨a0,a1,a2,a3,a4,a5,a6⟩ := ((hcs k hlt hz).grow hI.g).mk7
      have hbz : b < wr.heap.size := a8T a0
      have c0 := hI.m0
      have c1 := hI.m1
      have c2 := hI.m2
      have GA := Lib.hid (show Grow wr (wr.alloc (.cells #[.int .i64 (M k).a,.int .i64 (M k).b,.int .i64 (M k).c,.int .i64 (M k).d,.int .u8 (M k).e,.int .i64 (M k).f,.int .u8 (M k).g] 36)) from (Below.refl _ _).tq _)
      have HI := Lib.hid hI
      have HB := Lib.hid hB
      have HZ := Lib.hid hz
      have hzs : w.heap.size < wr.heap.size := by have := hI.s; omega
      clear hI hB hz hcs
      by_cases hck : c k = 0
      · have t2 : (c k != 0) = false := by simp [hck]
        have hcat : ∀ w',(Op.stringOp .add ⟨(s k).toArray⟩ ⟨#[10]⟩).run Tryz.prog w' = .ok (qV (s k ++ [10])) w' := fun w'=>mL (P := Tryz.prog) (s k) [10] (by have := HS.out k; simp only [List.length_cons,List.length_nil]; omega) w'
        have HCK := Lib.hid hck
        clear hck
        go_wp2_with (go_at_call 6; refine (K5.out hn k hlt HZ.out _ (HI.out.g.then GA.out)).mono ?_; rintro e w5 ⟨rfl,h5⟩)
        refine (yt (w.heap.size + 2) (w.heap.size + 2) (yG s k) (s k ++ [10]) w5 (wN HB.out (GA.out.then h5)) ?_ ?_).mono ?_
        · have := vW HS.out k; have := HS.out k; simp only [List.length_append,List.length_cons,List.length_nil]; omega
        · have := HI.out.s; have := GA.out.size; have := h5.size; omega
        rintro e w6 ⟨rfl,hb6,hbl⟩
        have HZ' : ∀ j,j < k + 1 → c j = 0 := fun j hj=>by
          rcases Nat.lt_succ_iff_lt_or_eq.1 hj with h | rfl
          · exact HZ.out j h
          · exact HCK.out
        have HI' := (HI.out.grow (GA.out.then h5)).mono hbl
        go_wp2_with fail
        exact ⟨⟨k + 1,by omega,by go_num,HZ',HI',hb6⟩,by simp [intOf]; omega⟩
      · have t2 : (c k != 0) = true := by simp [hck]
        go_wp2_with (go_at_call 6; refine (K5.out hn k hlt HZ.out _ (HI.out.g.then GA.out)).mono ?_; rintro e w5 ⟨rfl,h5⟩)
        go_ret2
        obtain ⟨e1,e2⟩ := (HR.out.2 hn).1 k hlt HZ.out hck
        subst e1 e2
        exact ⟨rfl,HI.out.g.then (GA.out.then h5)⟩
    · obtain rfl : k = n := by omega
      have c0 := hI.x0
      have c1 := hI.x1
      have c2 := hI.x2
      have HI := Lib.hid hI
      have HB := Lib.hid hB
      have HZ := Lib.hid hz
      clear hI hB hz
      have HU := Lib.hid ((HR.out.2 hn).2 HZ.out)
      cases r with
      | false=>
        go_wp2_with (go_at_call 26; refine (K33.out hn HZ.out _ HI.out.g).mono ?_; rintro e w5 ⟨rfl,h5⟩)
        go_ret2
        obtain ⟨e1,e2⟩ := HU.out.1 (by first | rfl | trivial)
        subst e1 e2
        exact ⟨rfl,HI.out.g.then h5⟩
      | true=>
        by_cases hcw : cw = 0
        · have t2 : (cw != 0) = false := by simp [hcw]
          obtain ⟨e1,e2⟩ := (HU.out.2 (by first | rfl | trivial)).2 hcw
          subst e1 e2
          have HCW := Lib.hid hcw
          clear hcw
          go_wp2_with (first
            | (go_at_call 26; refine (K33.out hn HZ.out _ HI.out.g).mono ?_; rintro e w5 ⟨rfl,h5⟩; have q0 := h5.keep c0; have q1 := h5.keep c1; have q2 := h5.keep c2; have H5 := Lib.hid h5; clear h5 c0 c1 c2)
            | (go_at_call 19; refine (K20.out hn HZ.out (by first | rfl | trivial) _ (HI.out.g.then H5.out)).mono ?_; rintro e w6 ⟨rfl,h6⟩; have r0 := h6.keep q0; have r1 := h6.keep q1; have r2 := h6.keep q2; have H6 := Lib.hid h6; clear h6 q0 q1 q2))
          obtain ⟨y0,hy0⟩ : ∃ y,y = [101,110,100,101,100,32] ++ word := ⟨_,rfl⟩
          have l0 : y0.length = [101,110,100,101,100,32].length + word.length := by rw [hy0]; exact List.length_append
          have x0 : ∀ w',(Op.stringOp .add ⟨#[101,110,100,101,100,32]⟩ ⟨word.toArray⟩).run Tryz.prog w' = .ok (qV y0) w' := fun w'=>by
            rw [hy0]
            exact mL (P := Tryz.prog) [101,110,100,101,100,32] word (by have := HL.out; simp only [List.length_cons,List.length_nil] at *; omega) w'
          obtain ⟨y1,hy1⟩ : ∃ y,y = y0 ++ [44,32,102,97,105,108,105,110,103,32] := ⟨_,rfl⟩
          have l1 : y1.length = y0.length + [44,32,102,97,105,108,105,110,103,32].length := by rw [hy1]; exact List.length_append
          have x1 : ∀ w',(Op.stringOp .add ⟨y0.toArray⟩ ⟨#[44,32,102,97,105,108,105,110,103,32]⟩).run Tryz.prog w' = .ok (qV y1) w' := fun w'=>by
            rw [hy1]
            exact mL (P := Tryz.prog) y0 [44,32,102,97,105,108,105,110,103,32] (by have := HL.out; simp only [List.length_cons,List.length_nil] at *; omega) w'
          obtain ⟨y2,hy2⟩ : ∃ y,y = y1 ++ f := ⟨_,rfl⟩
          have l2 : y2.length = y1.length + f.length := by rw [hy2]; exact List.length_append
          have x2 : ∀ w',(Op.stringOp .add ⟨y1.toArray⟩ ⟨f.toArray⟩).run Tryz.prog w' = .ok (qV y2) w' := fun w'=>by
            rw [hy2]
            exact mL (P := Tryz.prog) y1 f (by have := HL.out; simp only [List.length_cons,List.length_nil] at *; omega) w'
          obtain ⟨y3,hy3⟩ : ∃ y,y = y2 ++ [44,32,117,115,101,100,32] := ⟨_,rfl⟩
          have l3 : y3.length = y2.length + [44,32,117,115,101,100,32].length := by rw [hy3]; exact List.length_append
          have x3 : ∀ w',(Op.stringOp .add ⟨y2.toArray⟩ ⟨#[44,32,117,115,101,100,32]⟩).run Tryz.prog w' = .ok (qV y3) w' := fun w'=>by
            rw [hy3]
            exact mL (P := Tryz.prog) y2 [44,32,117,115,101,100,32] (by have := HL.out; simp only [List.length_cons,List.length_nil] at *; omega) w'
          obtain ⟨y4,hy4⟩ : ∃ y,y = y3 ++ u := ⟨_,rfl⟩
          have l4 : y4.length = y3.length + u.length := by rw [hy4]; exact List.length_append
          have x4 : ∀ w',(Op.stringOp .add ⟨y3.toArray⟩ ⟨u.toArray⟩).run Tryz.prog w' = .ok (qV y4) w' := fun w'=>by
            rw [hy4]
            exact mL (P := Tryz.prog) y3 u (by have := HL.out; simp only [List.length_cons,List.length_nil] at *; omega) w'
          obtain ⟨y5,hy5⟩ : ∃ y,y = y4 ++ [10] := ⟨_,rfl⟩
          have l5 : y5.length = y4.length + [10].length := by rw [hy5]; exact List.length_append
          have x5 : ∀ w',(Op.stringOp .add ⟨y4.toArray⟩ ⟨#[10]⟩).run Tryz.prog w' = .ok (qV y5) w' := fun w'=>by
            rw [hy5]
            exact mL (P := Tryz.prog) y4 [10] (by have := HL.out; simp only [List.length_cons,List.length_nil] at *; omega) w'
          have HY := Lib.hid (show y5 = a14 word f u ∧ y5.length ≤ 4000000 by
            refine ⟨by rw [hy5,hy4,hy3,hy2,hy1,hy0]; rfl, ?_⟩
            have := HL.out; simp only [List.length_cons,List.length_nil] at *; omega)
          clear l0 l1 l2 l3 l4 l5 hy0 hy1 hy2 hy3 hy4 hy5
          have K1 : ∀ d : rk w6,d.w'.cell? ⟨w.heap.size + 1,1,none⟩ = some (.int .i64 xf) := fun d=>d.h.keep r1
          have K2 : ∀ d : rk w6,d.w'.cell? ⟨w.heap.size + 1,2,none⟩ = some (.int .i64 xu) := fun d=>d.h.keep r2
          have G6 := Lib.hid (HI.out.g.then (H5.out.then H6.out))
          refine pn 13 (by kernel_rfl) (by kernel_rfl) ?_
          simp only [Y7]
          repeat (go_big_quiet_step ((go_at_call 18; first | exact Calls.later (K19.out hn HZ.out (by first | rfl | trivial) HCW.out _ (G6.out.then (rk.h _))).1 | exact Calls.later (K19.out hn HZ.out (by first | rfl | trivial) HCW.out _ (G6.out.then (rk.h _))).2)))
          refine wpQuiet_nil ?_
          rintro _ ⟨d,rfl⟩
          have HD := Lib.hid ((H5.out.then H6.out).then d.h)
          have HB' := Lib.hid (wN HB.out HD.out)
          have HSZ := Lib.hid (show w.heap.size + 2 ≤ d.w'.heap.size by have := HI.out.s; have := HD.out.size; omega)
          have HI' := Lib.hid (HI.out.grow HD.out)
          clear K1 K2
          go_wp2_with (first
            | (go_at_call 25; refine (yt (w.heap.size + 2) (w.heap.size + 2) (yG s k) y5 _ HB'.out (by have := vW HS.out k; have := HY.out.2; omega) HSZ.out).mono ?_; rintro e w8 ⟨rfl,h8,g8⟩; have HB2 := Lib.hid h8; have G8 := Lib.hid g8; clear h8 g8)
            | (go_at_call 27; refine (Tryz.Builder_String_any_k (w.heap.size + 2) (w.heap.size + 2) (yG s k ++ y5) _ HB2.out (by have := HSZ.out; have := G8.out.size; omega)).mono ?_; rintro e w9 ⟨rfl,_,h9,_⟩))
          go_ret2
          refine ⟨?_,((HI'.out.mono G8.out).mono h9).g⟩
          rw [← HY.out.1]
          rfl
        · have t2 : (cw != 0) = true := by simp [hcw]
          go_wp2_with (first
            | (go_at_call 26; refine (K33.out hn HZ.out _ HI.out.g).mono ?_; rintro e w5 ⟨rfl,h5⟩; have q0 := h5.keep c0; have q1 := h5.keep c1; have q2 := h5.keep c2; have H5 := Lib.hid h5; clear h5 c0 c1 c2)
            | (go_at_call 19; refine (K20.out hn HZ.out (by first | rfl | trivial) _ (HI.out.g.then H5.out)).mono ?_; rintro e w6 ⟨rfl,h6⟩))
          go_ret2
          obtain ⟨e1,e2⟩ := (HU.out.2 (by first | rfl | trivial)).1 hcw
          subst e1 e2
          exact ⟨rfl,HI.out.g.then (H5.out.then h6)⟩
end Go.Proofs.YtpiokjcbadfalaaGreatDoor.Tz
namespace Go.Proofs.YtpiokjcbadfalaaGreatDoor.Tz
section
variable {V : Env} {f : FuncId} {G : aF}
theorem ao.top (h : ao V f G) {l : Row} {v : AV} (e : eJ (G.f l .empty) = some v) {w : World} {F : Nat → Prop} (hg : V.Glo w F) (hi : ∀ B,F B → B < w.heap.size) {args : Array Value} (ha : kM w F dI l args) :
    Calls V.P f args w fun e w'=>∃ x,e = .returned x ∧ RowKit.Below w.heap.size w w' ∧ ∃ F' μ',ai w' F' μ' v x := by
  obtain ⟨hc,e⟩ := pM e
  obtain ⟨_,v',hc',e',H⟩ := h l .empty _ e (by simp)
  cases e'
  have h0 := H w dI F args 0 (adx (fun _=>rfl) hi hg) ha
  have h1 : CallsIn Fence.wide 0 V.P f args w fun e w'=>∃ x,e = .returned x ∧ ∃ μ' F',ai w' F' μ' v x ∧ aN V μ' F' hc w' ∧ fV dI F .empty w μ' F' hc w' := h0
  refine (callsIn_wide.1 h1).mono fun e w' ⟨x,e1,μ',F',h2,_,h4⟩=>⟨x,e1,⟨?_, ?_,h4.ext.io.2,h4.ext.size,fun B hB=>h4.ext.keep B hB fun ho=>rJ ho.wb⟩,F',μ',h2⟩
  · exact (Prod.mk.inj h4.ext.io.1).1
  · exact (Prod.mk.inj h4.ext.io.1).2
end
theorem we : ∀ n s,(ly n s).length = n
  | 0,_=>rfl
  | n + 1,s=>congrArg (· + 1) (we n _)
theorem sY (n s : Nat) : (yj n s).length = n := by unfold yj; rw [List.length_map,we]
section
variable {w : World} {F : Nat → Prop} {μ : Mu}
theorem gS {i n : Nat} {x : Value} (h : ai w F μ (.int i n) x) : n < md i ∧ x = .int (kd i) ((kd i).wrap n) := by cases h with | int h=>exact ⟨h,rfl⟩
theorem aaD {s n : Nat} {x : Value} (h : ai w F μ (.str s n) x) : x = qV (yj n s) := by
  cases h with
  | str=>
    rename_i b
    rw [show b.size = b.data.toList.length from rfl,fM]
theorem wrap_small {c : Nat} (h : c ≤ 1000) : (kd 3).wrap (c : Int) = c := by
  show IntKind.i64.wrap _ = _
  simp only [IntKind.wrap]
  first
    | omega
    | (simp [IntKind.bits,IntKind.signed]; omega)
theorem ave {v : AV} {l : List UInt8} {c : Nat} {x : Value} (h : oZ (some v) = some (l,c)) (hx : ai w F μ v x) : x = a5Q l c ∧ c ≤ 1000 ∧ l.length ≤ 1000000 := by
  unfold oZ at h
  split at h
  · rename_i o s n a i c' a2 m e
    injection e with e
    subst e
    split at h
    · rename_i hh
      obtain ⟨rfl,hc,hn⟩ := hh
      injection h with h
      injection h with h1 h2
      subst h1 h2
      refine ⟨?_,hc,by rw [sY]; omega⟩
      cases hx with
      | bu us hl hu hr=>
        rename_i vs
        have hs : vs.size = 2 := by rw [← hl]; rfl
        have r0 := hr 0 (by omega)
        have r1 := hr 1 (by omega)
        have e0 := aaD (s := s) (n := n) r0
        have e1 := (gS (i := 3) (n := c') r1).2
        rw [wrap_small hc] at e1
        have : vs = #[us 0,us 1] := by
          apply Array.ext
          · exact hs
          · intro i h1 h2
            have := hu i h1
            rw [Array.getElem?_eq_getElem h1] at this
            have hi : i = 0 ∨ i = 1 := by have : i < 2 := by omega
                                          omega
            rcases hi with rfl | rfl
            · injection this
            · injection this
        rw [this,e0,e1]
        rfl
    · cases h
  · cases h
theorem s_val {v : AV} {l : List UInt8} {x : Value} (h : sOf (some v) = some l) (hx : ai w F μ v x) : x = qV l ∧ l.length ≤ 1000000 := by
  unfold sOf at h
  split at h
  · rename_i o s n e
    injection e with e
    subst e
    split at h
    · rename_i hn
      injection h with h
      subst h
      exact ⟨aaD hx,by rw [sY]; omega⟩
    · cases h
  · cases h
theorem b_val {v : AV} {b : Bool} {x : Value} (h : bOf (some v) = some b) (hx : ai w F μ v x) : x = .bool b := by
  unfold bOf at h
  split at h
  · rename_i o b' e
    injection e with e
    subst e
    injection h with h
    subst h
    cases hx; rfl
  · cases h
theorem a8f {v : AV} {x : Value} (h : th v = true) (hx : ai w F μ v x) : ∃ p n k,x = .slice p n k := by
  cases hx with
  | vs=>exact ⟨_,_,_,rfl⟩
  | vs0=>exact ⟨_,_,_,rfl⟩
  | emp=>exact ⟨_,_,_,rfl⟩
  | qH=>exact ⟨_,_,_,rfl⟩
  | _=>cases h
theorem yg {cs : Array Value} {us : Nat → Value} (hs : cs.size = 3) (hu : ∀ i,i < 3 → cs[i]? = some (us i)) : cs = #[us 0,us 1,us 2] := by
  apply Array.ext
  · exact hs
  · intro i h1 h2
    have hi : i < 3 := by omega
    have := hu i hi
    rw [Array.getElem?_eq_getElem h1] at this
    rcases (by omega : i = 0 ∨ i = 1 ∨ i = 2) with rfl | rfl | rfl
    · injection this
    · injection this
    · injection this
theorem ajt {v : AV} {x : Value} (h : a4a v = true) (hx : ai w F μ v x) : ∃ p0 n0 k0 p1 n1 k1 p2 n2 k2,x = .agg #[.slice p0 n0 k0,.slice p1 n1 k1,.slice p2 n2 k2] := by
  unfold a4a at h
  split at h
  · rename_i o a _ b _ c _ n
    simp only [Bool.and_eq_true,decide_eq_true_eq] at h
    obtain ⟨⟨⟨rfl,h0⟩,h1⟩,h2⟩ := h
    cases hx with
    | agg us hs hu _ hr=>
      obtain ⟨p0,n0,k0,e0⟩ := a8f h0 (hr 0 (by decide))
      obtain ⟨p1,n1,k1,e1⟩ := a8f h1 (hr 1 (by decide))
      obtain ⟨p2,n2,k2,e2⟩ := a8f h2 (hr 2 (by decide))
      exact ⟨p0,n0,k0,p1,n1,k1,p2,n2,k2,by rw [yg hs hu,e0,e1,e2]⟩
  · cases h
theorem ajb {v a b c : AV} {x : Value} (h : uz v = some (a,b,c)) (hx : ai w F μ v x) : ∃ o f u,x = .agg #[.int .u8 o,.int .i64 f,.int .i64 u] ∧ ai w F μ a (.int .u8 o) ∧ ai w F μ b (.int .i64 f) ∧ ai w F μ c (.int .i64 u) := by
  unfold uz at h
  split at h
  · split at h
    · rename_i o i0 a' _ i1 b' _ i2 c' _ n hh
      obtain ⟨rfl,rfl,rfl,rfl⟩ := hh
      injection h with h
      injection h with h1 h
      injection h with h2 h3
      subst h1 h2 h3
      cases hx with
      | agg us hs hu _ hr=>
        have r0 := hr 0 (by decide)
        have r1 := hr 1 (by decide)
        have r2 := hr 2 (by decide)
        obtain ⟨_,e0⟩ := gS (i := 4) (n := a') r0
        obtain ⟨_,e1⟩ := gS (i := 3) (n := b') r1
        obtain ⟨_,e2⟩ := gS (i := 3) (n := c') r2
        rw [e0] at r0
        rw [e1] at r1
        rw [e2] at r2
        exact ⟨_,_,_,by rw [yg hs hu,e0,e1,e2]; rfl,r0,r1,r2⟩
    · cases h
  · cases h
end
section
variable (line : aF) (m : AV) (t : Row) (o : Nat)
noncomputable def sJ (j : Nat) : List UInt8 := ((oZ (eJ (line.f (.nd m .lf (.nd (t.at (o + j)) .lf .lf)) .empty))).getD ([],0)).1
noncomputable def cJ (j : Nat) : Nat := ((oZ (eJ (line.f (.nd m .lf (.nd (t.at (o + j)) .lf .lf)) .empty))).getD ([],0)).2
def nU (j : Nat) : Prop := mkF (t.at (o + j)) = true ∧ oZ (eJ (line.f (.nd m .lf (.nd (t.at (o + j)) .lf .lf)) .empty)) = some (sJ line m t o j,cJ line m t o j)
theorem zY (n : Nat) : ∀ k i r z,i + k = n → fZ line m t o k i (yG (sJ line m t o) i) = some (r,z) → (∀ j,j < i → nU line m t o j ∧ cJ line m t o j = 0) →
    (z = 0 ∧ r = yG (sJ line m t o) n ∧ ∀ j,j < n → nU line m t o j ∧ cJ line m t o j = 0) ∨ (∃ q,q < n ∧ (∀ j,j < q → nU line m t o j ∧ cJ line m t o j = 0) ∧ nU line m t o q ∧ cJ line m t o q ≠ 0 ∧ z = cJ line m t o q ∧ r = [])
  | 0,i,r,z,hi,h,hb=>by
    obtain rfl : i = n := hi
    injection h with h
    injection h with h1 h2
    exact .inl ⟨h2.symm,h1.symm,hb⟩
  | k + 1,i,r,z,hi,h,hb=>by
    rw [fZ] at h
    split at h
    · rename_i hm
      cases hs : oZ (eJ (line.f (.nd m .lf (.nd (t.at (o + i)) .lf .lf)) .empty)) with
      | none=>rw [hs] at h; cases h
      | some p=>
        obtain ⟨s,c⟩ := p
        rw [hs] at h
        dsimp only at h
        have es : sJ line m t o i = s := by unfold sJ; rw [hs]; rfl
        have ec : cJ line m t o i = c := by unfold cJ; rw [hs]; rfl
        have hg : nU line m t o i := ⟨hm,by rw [es,ec]; exact hs⟩
        split at h
        · rename_i hc
          refine zY n k (i + 1) r z (by omega) ?_ fun j hj=>?_
          · rw [← es] at h; exact h
          · rcases Nat.lt_succ_iff_lt_or_eq.1 hj with q | rfl
            · exact hb j q
            · exact ⟨hg,ec.trans hc⟩
        · rename_i hc
          injection h with h
          injection h with h1 h2
          exact .inr ⟨i,by omega,hb,hg,by rw [ec]; exact hc,by rw [ec]; exact h2.symm,h1.symm⟩
    · cases h
end
noncomputable def mkV (v : AV) : MkV := match v with
  | .agg (.nd (.int _ a) _ (.nd (.int _ b) _ (.nd (.int _ c) _ (.nd (.int _ d) _ (.nd (.int _ e) _ (.nd (.int _ f) _ (.nd (.int _ g) _ .lf))))))) _=>⟨(kd 3).wrap a,(kd 3).wrap b,(kd 3).wrap c,(kd 3).wrap d,(kd 4).wrap e,(kd 3).wrap f,(kd 4).wrap g⟩
  | _=>⟨0,0,0,0,0,0,0⟩
theorem a4I {v : AV} {w : World} {F : Nat → Prop} {μ : Mu} {us : Nat → Value} (h : mkF v = true) (hu : ∀ i,i < 7 → ai w F μ (elc v i) (us i)) : ∀ j x,(mkV v).cells[j]? = some x → j < 7 ∧ us j = x := by
  unfold mkF at h
  split at h
  · rename_i o i0 a _ i1 b _ i2 c _ i3 d _ i4 e _ i5 f _ i6 g _ n
    simp only [decide_eq_true_eq] at h
    obtain ⟨rfl,rfl,rfl,rfl,rfl,rfl,rfl,rfl⟩ := h
    have e0 := (gS (i := 3) (n := a) (hu 0 (by decide))).2
    have e1 := (gS (i := 3) (n := b) (hu 1 (by decide))).2
    have e2 := (gS (i := 3) (n := c) (hu 2 (by decide))).2
    have e3 := (gS (i := 3) (n := d) (hu 3 (by decide))).2
    have e4 := (gS (i := 4) (n := e) (hu 4 (by decide))).2
    have e5 := (gS (i := 3) (n := f) (hu 5 (by decide))).2
    have e6 := (gS (i := 4) (n := g) (hu 6 (by decide))).2
    intro j x hj
    match j with
    | 0=>exact ⟨by decide,e0.trans (Option.some.inj hj)⟩
    | 1=>exact ⟨by decide,e1.trans (Option.some.inj hj)⟩
    | 2=>exact ⟨by decide,e2.trans (Option.some.inj hj)⟩
    | 3=>exact ⟨by decide,e3.trans (Option.some.inj hj)⟩
    | 4=>exact ⟨by decide,e4.trans (Option.some.inj hj)⟩
    | 5=>exact ⟨by decide,e5.trans (Option.some.inj hj)⟩
    | 6=>exact ⟨by decide,e6.trans (Option.some.inj hj)⟩
    | j + 7=>cases hj
  · cases h
theorem aue {v : AV} {w : World} {F : Nat → Prop} {us : Nat → Value} (h : mkF v = true) (hu : ∀ i,i < 7 → ai w F dI (elc v i) (us i)) : ai w F dI v (mkV v).agg := by
  have hc := a4I h hu
  unfold mkF at h
  split at h
  · rename_i o i0 a l0 i1 b l1 i2 c l2 i3 d l3 i4 e l4 i5 f l5 i6 g l6 n
    simp only [decide_eq_true_eq] at h
    obtain ⟨rfl,rfl,rfl,rfl,rfl,rfl,rfl,rfl⟩ := h
    refine .agg us rfl (fun i hi=>?_) (fun i hi=>?_) fun i hi=>hu i hi
    · have : ∃ x,(mkV (.agg (.nd (.int 3 a) l0 (.nd (.int 3 b) l1 (.nd (.int 3 c) l2 (.nd (.int 3 d) l3 (.nd (.int 4 e) l4 (.nd (.int 3 f) l5 (.nd (.int 4 g) l6 .lf))))))) 7)).cells[i]? = some x := by
        rcases (by omega : i = 0 ∨ i = 1 ∨ i = 2 ∨ i = 3 ∨ i = 4 ∨ i = 5 ∨ i = 6) with rfl | rfl | rfl | rfl | rfl | rfl | rfl <;> exact ⟨_,rfl⟩
      obtain ⟨x,hx⟩ := this
      rw [(hc i x hx).2,← hx]
      exact List.getElem?_toArray
    · have : ∃ x,(mkV (.agg (.nd (.int 3 a) l0 (.nd (.int 3 b) l1 (.nd (.int 3 c) l2 (.nd (.int 3 d) l3 (.nd (.int 4 e) l4 (.nd (.int 3 f) l5 (.nd (.int 4 g) l6 .lf))))))) 7)).cells[i]? = some x := by
        rcases (by omega : i = 0 ∨ i = 1 ∨ i = 2 ∨ i = 3 ∨ i = 4 ∨ i = 5 ∨ i = 6) with rfl | rfl | rfl | rfl | rfl | rfl | rfl <;> exact ⟨_,rfl⟩
      obtain ⟨x,hx⟩ := this
      rw [(hc i x hx).2]
      revert hx
      match i with
      | 0=>intro hx; rw [← Option.some.inj hx]; rfl
      | 1=>intro hx; rw [← Option.some.inj hx]; rfl
      | 2=>intro hx; rw [← Option.some.inj hx]; rfl
      | 3=>intro hx; rw [← Option.some.inj hx]; rfl
      | 4=>intro hx; rw [← Option.some.inj hx]; rfl
      | 5=>intro hx; rw [← Option.some.inj hx]; rfl
      | 6=>intro hx; rw [← Option.some.inj hx]; rfl
      | j + 7=>omega
  · cases h
theorem args3 {w : World} {F : Nat → Prop} {μ : Mu} {a b c : AV} {p q r : Row} {args : Array Value} (h : kM w F μ (.nd a p (.nd b q (.nd c r .lf))) args) : ∃ x y z,args = #[x,y,z] ∧ ai w F μ a x ∧ ai w F μ b y ∧ ai w F μ c z := by
  obtain ⟨h1,h2⟩ := h
  obtain ⟨l⟩ := args
  match l with
  | []=>cases h1
  | [x]=>cases h1
  | [x,y]=>cases h1
  | [x,y,z]=>exact ⟨x,y,z,rfl,h2 0 x rfl,h2 1 y rfl,h2 2 z rfl⟩
  | x :: y :: z :: u :: l=>exact absurd h1 (by simp [len])
theorem a6D {w : World} {F : Nat → Prop} {μ : Mu} {a : AV} {x : Value} (h : ai w F μ a x) : kM w F μ (.nd a .lf .lf) #[x] :=
  ⟨rfl,fun i u hu=>by
    match i with
    | 0=>injection hu with hu; subst hu; exact h
    | i + 1=>cases hu⟩
theorem anO {w : World} {F : Nat → Prop} {μ : Mu} {a b : AV} {x y : Value} (h : ai w F μ a x) (k : ai w F μ b y) : kM w F μ (.nd a .lf (.nd b .lf .lf)) #[x,y] :=
  ⟨rfl,fun i u hu=>by
    match i with
    | 0=>injection hu with hu; subst hu; exact h
    | 1=>injection hu with hu; subst hu; exact k
    | i + 2=>cases hu⟩
theorem aiy (t : Row) (o j i : Nat) (hi : i < 7) : cellAt 7 t (o * 7 + (j * 7 + i)) = elc (t.at (o + j)) i := by
  unfold cellAt
  rw [if_neg (by decide),show (o * 7 + (j * 7 + i)) / 7 = o + j by omega,show (o * 7 + (j * 7 + i)) % 7 = i by omega]
theorem acD {a : AV} {t : Row} {o n : Nat} {w : World} {F : Nat → Prop} {x : Value} (h : iN a = some (t,o,n)) (hx : ai w F dI a x) :
    ∃ q cap,x = .slice q n cap ∧ (n = 0 ∨ ∃ b off,q = some ⟨b,off,none⟩ ∧ F b ∧ ∀ j,j < n → mkF (t.at (o + j)) = true → Has w b (off + j * 7) (mkV (t.at (o + j))).cells ∧ ai w F dI (t.at (o + j)) (mkV (t.at (o + j))).agg) := by
  cases hx with
  | vs us hF hc hu h1 hr=>
    rename_i t' o' n' z' B off cap
    rw [iN] at h
    split at h
    · rename_i hz
      subst hz
      injection h with h
      injection h with h2 h
      injection h with h3 h4
      subst h2 h3 h4
      refine ⟨_,_,rfl,.inr ⟨B,off,rfl,hF,fun j hj hm=>?_⟩⟩
      have hr' : ∀ i,i < 7 → ai w F dI (elc (t'.at (o' + j)) i) (us (j * 7 + i)) := fun i hi=>by
        rw [← aiy t' o' j i hi]; exact hr _ (by omega)
      refine ⟨fun i v hv=>?_,aue hm hr'⟩
      obtain ⟨hi,e⟩ := a4I hm hr' i v hv
      rw [← e,Nat.add_assoc]
      exact hu _ (by omega)
    · cases h
  | vs0=>
    rw [iN] at h
    split at h
    · injection h with h
      injection h with h2 h
      injection h with h3 h4
      subst h2 h3 h4
      exact ⟨_,_,rfl,.inl rfl⟩
    · cases h
  | emp=>
    injection h with h
    injection h with h2 h
    injection h with h3 h4
    subst h2 h3 h4
    exact ⟨_,_,rfl,.inl rfl⟩
  | qH=>
    injection h with h
    injection h with h2 h
    injection h with h3 h4
    subst h2 h3 h4
    exact ⟨_,_,rfl,.inl rfl⟩
  | _=>cases h
end Go.Proofs.YtpiokjcbadfalaaGreatDoor.Tz
