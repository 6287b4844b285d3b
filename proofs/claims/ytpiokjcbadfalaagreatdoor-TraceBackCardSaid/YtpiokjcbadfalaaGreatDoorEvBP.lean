import Derived.Test.YtpiokjcbadfalaaGreatDoorEvAY
import Derived.Test.YtpiokjcbadfalaaGreatDoorEvBO
import Derived.Test.YtpiokjcbadfalaaGreatDoorRows
import Derived.Test.YtpiokjcbadfalaaGreatDoorTie
import Derived.Test.YtpiokjcbadfalaaGreatDoorCards
import Derived.Lib.LaidTab
import Derived.Stop.LaidErr
import Derived.Shelf.Vars
import Derived.LaidLaws
import Derived.MakeChecks
import Derived.Lay
import Derived.ProofKit
import Derived.OpenShut
import Derived.ChangeOld
import Derived.Below
import Derived.SevenTiedAt
namespace Go.Proofs.YtpiokjcbadfalaaGreatDoor
open Go Go.Lib Go.ChangeShapes Go.WideShapes Go.ChangeAt Go.RowKit
set_option maxRecDepth 100000
def zsA : List Int := (List.range 256).map fun i=>(Tz.asc i : Int)
theorem ahT : Rows.laid_strings_asciiSpace (H := Unit) = tabData .u8 zsA := by rfl
theorem isErr (u : TypeId) (hu : Tryz.prog.typeName? 3 u = some "*errors.errorString") : u = 402 := typeName_ptr_named (nm := "errors.errorString") (by kernel_rfl) (by kernel_rfl) (by decide) u hu
theorem gw {W : World} (hsh : W.ShapedOpen Tryz.prog) (hL0 : laidMetH Tryz.prog Rows.traceBackRow.laid W) : Tz.GW 1 0 5 W := by
  have hL : laidMet Tryz.prog Rows.traceBackRow.laid W := by rw [← MakeChecks.laidMetH_plain _ _ _ (by kernel_rfl)]; exact hL0
  have hA : TabIs Tryz.prog W "strings.asciiSpace" .u8 zsA := tabIs_of_head (g := 1) (t := 208) (e := 5) (n := 256) (by kernel_rfl) (by kernel_rfl) (by kernel_rfl) (by kernel_rfl) (by kernel_rfl) (by kernel_rfl) (by rw [← ahT]; exact hL.tail.tail.tail.tail.tail.tail.tail)
  refine ⟨fun i hi=>?_, ?_, ?_⟩
  · have := hA.cell (g := 1) (by kernel_rfl) i (by simpa [zsA] using hi)
    rw [this]
    simp [zsA,List.getD,hi]
  · exact cell_of_shapedOpen_int (t := 3) hsh (by decide +kernel) (zero := #[.int .i64 0]) (by kernel_rfl) (by kernel_rfl) (by kernel_rfl) (by kernel_rfl) (by kernel_rfl)
  · obtain ⟨a,b,hv,_⟩ := laid_sentinel (g := 5) (ti := 77) (tp := 402) (te := 404) (ts := 9) hL.tail.tail.tail.tail.tail (by kernel_rfl) (by kernel_rfl) (ms := #[("Error",81)]) (by kernel_rfl) isErr (by kernel_rfl) (f := (⟨ "s",9,0,false,"","errors",0⟩ : Field)) (by kernel_rfl) rfl rfl (by kernel_rfl) (by kernel_rfl) (by kernel_rfl)
    exact ⟨_,by have := World.var?_cell (g := 5) (by kernel_rfl) hv 0; simpa using this,.inr ⟨_,_,rfl⟩⟩
theorem globs (W : World) (h : W.ShapedOpen Tryz.prog) : 11 ≤ W.heap.size := by
  obtain ⟨cs,hh,_⟩ := h.1 10 #[.pointer none] 254 (by decide +kernel) (by kernel_rfl)
  exact (Array.getElem?_eq_some_iff.1 hh).1
theorem own : ownKnob Tryz.prog.godebug = none := by kernel_rfl
theorem laidOut : laidOutB Tryz.prog = true := by kernel_rfl
theorem avr : Tryz.prog.underlying 4 = some .bool := by kernel_rfl
theorem aey : Tryz.prog.underlying 26 = some (.struct (match Tryz.prog.underlying 26 with | some (.struct fs)=>fs | _=>#[])) := by kernel_rfl
theorem ae5 : Tryz.prog.underlying 29 = some (.struct (match Tryz.prog.underlying 29 with | some (.struct fs)=>fs | _=>#[])) := by kernel_rfl
theorem a5B : Tryz.prog.underlying 27 = some (.slice 36) := by kernel_rfl
end Go.Proofs.YtpiokjcbadfalaaGreatDoor
