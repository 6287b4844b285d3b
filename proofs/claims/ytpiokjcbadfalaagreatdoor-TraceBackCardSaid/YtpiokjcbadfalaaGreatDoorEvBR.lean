import Derived.Test.YtpiokjcbadfalaaGreatDoorEvBP
import Derived.Test.YtpiokjcbadfalaaGreatDoorRows
namespace Go.Proofs.YtpiokjcbadfalaaGreatDoor
open Go Go.Lib Go.ChangeShapes Go.WideShapes Go.ChangeAt Go.RowKit
set_option maxRecDepth 100000
def tc : Array Value := #[.agg #[.slice none 0 0,.slice none 0 0,.slice none 0 0],.slice none 0 0,.agg #[.int .u8 0,.int .i64 0,.int .i64 0],.string .empty]
noncomputable abbrev lay (os : Os) : World := World.laidAll Tryz.prog os Rows.traceBackRow.laid
theorem wit1 (os : Os) : ((lay os).forCall (fun _ _=>0) ⟨#[],tc,[]⟩).variablesZipB Tryz.prog = true := by kernel_rfl
theorem wit2 (os : Os) : (((lay os).forCall (fun _ _=>0) ⟨#[],tc,[]⟩).heap.toList.drop Tryz.prog.globals.size).take ((begin Tryz.prog (fun _ _=>0) default).world.heap.size - Tryz.prog.globals.size) = (begin Tryz.prog (fun _ _=>0) default).world.heap.toList.drop Tryz.prog.globals.size := by kernel_rfl
theorem wit3 (os : Os) : Input.okWideB Tryz.prog ((lay os).forCall (fun _ _=>0) ⟨#[],tc,[]⟩) 3 ⟨#[],tc,[]⟩ = true := by kernel_rfl
theorem wit4 (os : Os) (H : Type) (enc : TypeId × Value → H) : Rows.traceBackSpec.preB enc Tryz.prog Tryz.f3 [] false ((lay os).forCall (fun _ _=>0) ⟨#[],tc,[]⟩).memory tc 8 = true := by kernel_rfl
theorem wit5 (os : Os) (H : Type) (enc : TypeId × Value → H) : Rows.traceBackSpec.sizedB enc Tryz.prog Tryz.f3 false ((lay os).forCall (fun _ _=>0) ⟨#[],tc,[]⟩).memory tc 8 = true := by kernel_rfl
theorem wit6 (os : Os) : (World.holding Tryz.prog os ⟨#[],#[],[]⟩).layFits Tryz.prog Rows.traceBackRow.laid [] = true := by kernel_rfl
theorem wit7 (os : Os) : (World.holding Tryz.prog os ⟨#[],#[],[]⟩).layIfaces Tryz.prog Rows.traceBackRow.laid (lay os) = true := by kernel_rfl
theorem aur (W : World) : laidMetH Tryz.prog Rows.traceBackRow.laid W = laidMet Tryz.prog Rows.traceBackRow.laid W := MakeChecks.laidMetH_plain _ _ _ (by kernel_rfl)
end Go.Proofs.YtpiokjcbadfalaaGreatDoor
