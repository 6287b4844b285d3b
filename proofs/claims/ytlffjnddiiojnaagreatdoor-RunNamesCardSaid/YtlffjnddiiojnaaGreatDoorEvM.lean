import Derived.Test.YtlffjnddiiojnaaGreatDoorEvJ
import Derived.Test.YtlffjnddiiojnaaGreatDoorEvL
import Derived.Test.YtlffjnddiiojnaaGreatDoorRows
import Derived.Test.YtlffjnddiiojnaaGreatDoorTie
import Derived.Test.YtlffjnddiiojnaaGreatDoorCards
import Derived.Lib.LaidTab
import Derived.Stop.LaidErr
import Derived.Shelf.Vars
import Derived.LaidLaws
import Derived.MakeChecks
import Derived.Lay
import Derived.ProofKit
import Derived.OpenShut
import Derived.ChangeOld
import Derived.Below
import Derived.SevenTiedAt
/- RunNames returns true: the row and the card, out of the run (tr). -/
namespace Go.Proofs.YtlffjnddiiojnaaGreatDoor
open Go Go.Lib Go.ChangeShapes Go.WideShapes Go.ChangeAt Go.RowKit
set_option maxRecDepth 100000
def zsA : List Int := (List.range 256).map fun i => (Tz.asc i : Int)
theorem zsA_data : Rows.laid_strings_asciiSpace (H := Unit) = tabData .u8 zsA := by rfl
theorem isErr (u : TypeId) (hu : Tryz.prog.typeName? 3 u = some "*errors.errorString") : u = 450 := typeName_ptr_named (nm := "errors.errorString") (by kernel_rfl) (by kernel_rfl) (by decide) u hu
theorem gw {W : World} (hsh : W.ShapedOpen Tryz.prog) (hL0 : laidMetH Tryz.prog Rows.runNamesRow.laid W) : Tz.GW 4 2 W := by
  have hL : laidMet Tryz.prog Rows.runNamesRow.laid W := by rw [← MakeChecks.laidMetH_plain _ _ _ (by kernel_rfl)]; exact hL0
  have hA : TabIs Tryz.prog W "strings.asciiSpace" .u8 zsA := tabIs_of_head (g := 0) (t := 348) (e := 5) (n := 256) (by kernel_rfl) (by kernel_rfl) (by kernel_rfl) (by kernel_rfl) (by kernel_rfl) (by kernel_rfl) (by rw [← zsA_data]; exact hL.tail.tail.tail.tail.tail.tail.tail)
  refine ⟨fun i hi => ?_, ?_, ?_⟩
  · have := hA.cell (g := 0) (by kernel_rfl) i (by simpa [zsA] using hi)
    rw [this]
    simp [zsA, List.getD, hi]
  · exact cell_of_shapedOpen_int (t := 3) hsh (by decide +kernel) (zero := #[.int .i64 0]) (by kernel_rfl) (by kernel_rfl) (by kernel_rfl) (by kernel_rfl) (by kernel_rfl)
  · obtain ⟨a, b, hv, _⟩ := laid_sentinel (g := 2) (ti := 271) (tp := 450) (te := 452) (ts := 9) hL.tail.tail.tail.tail.tail (by kernel_rfl) (by kernel_rfl) (ms := #[("Error", 478)]) (by kernel_rfl) isErr (by kernel_rfl) (f := (⟨ "s", 9, 0, false, "", "errors", 0⟩ : Field)) (by kernel_rfl) rfl rfl (by kernel_rfl) (by kernel_rfl) (by kernel_rfl)
    exact ⟨_, by have := World.var?_cell (g := 2) (by kernel_rfl) hv 0; simpa using this, .inr ⟨_, _, rfl⟩⟩
theorem own : ownKnob Tryz.prog.godebug = none := by kernel_rfl
theorem under4 : Tryz.prog.underlying 4 = some .bool := by kernel_rfl
theorem globs (W : World) (h : W.ShapedOpen Tryz.prog) : 11 ≤ W.heap.size := by
  obtain ⟨cs, hh, _⟩ := h.1 10 #[.pointer none] 398 (by decide +kernel) (by kernel_rfl)
  exact (Array.getElem?_eq_some_iff.1 hh).1
theorem io_kept {w w' : World} (h : Go.Proofs.YtlffjnddiiojnaaGreatDoor.Ev.SameIo w w') (hk : ∀ B, B < w.heap.size → w'.heap[B]? = w.heap[B]?) (may : MemPlace → Prop) : w.keptBut w' may := by
  refine ⟨(Prod.mk.inj h.1).1, h.2, fun i hi => ?_⟩
  rw [hk i hi]
  split <;> simp_all
theorem wit1 (os : Os) : (((World.laidAll Tryz.prog os Rows.runNamesRow.laid)).forCall (fun _ _ => 0) ⟨#[], #[], []⟩).variablesZipB Tryz.prog = true := by kernel_rfl
theorem wit2 (os : Os) : (((World.laidAll Tryz.prog os Rows.runNamesRow.laid).forCall (fun _ _ => 0) ⟨#[], #[], []⟩).heap.toList.drop Tryz.prog.globals.size).take ((begin Tryz.prog (fun _ _ => 0) default).world.heap.size - Tryz.prog.globals.size) = (begin Tryz.prog (fun _ _ => 0) default).world.heap.toList.drop Tryz.prog.globals.size := by kernel_rfl
theorem wit3 (os : Os) : Input.okWideB Tryz.prog ((World.laidAll Tryz.prog os Rows.runNamesRow.laid).forCall (fun _ _ => 0) ⟨#[], #[], []⟩) 3 ⟨#[], #[], []⟩ = true := by kernel_rfl
theorem wit4 (os : Os) (H : Type) (enc : TypeId × Value → H) : Rows.runNamesSpec.preB enc Tryz.prog Tryz.f3 [] false ((World.laidAll Tryz.prog os Rows.runNamesRow.laid).forCall (fun _ _ => 0) ⟨#[], #[], []⟩).memory #[] 8 = true := by kernel_rfl
theorem wit5 (os : Os) (H : Type) (enc : TypeId × Value → H) : Rows.runNamesSpec.sizedB enc Tryz.prog Tryz.f3 false ((World.laidAll Tryz.prog os Rows.runNamesRow.laid).forCall (fun _ _ => 0) ⟨#[], #[], []⟩).memory #[] 8 = true := by kernel_rfl
theorem wit6 (os : Os) : (World.holding Tryz.prog os ⟨#[], #[], []⟩).layFits Tryz.prog Rows.runNamesRow.laid [] = true := by kernel_rfl
theorem wit7 (os : Os) : (World.holding Tryz.prog os ⟨#[], #[], []⟩).layIfaces Tryz.prog Rows.runNamesRow.laid (World.laidAll Tryz.prog os Rows.runNamesRow.laid) = true := by kernel_rfl
theorem plainL (W : World) : laidMetH Tryz.prog Rows.runNamesRow.laid W = laidMet Tryz.prog Rows.runNamesRow.laid W := MakeChecks.laidMetH_plain _ _ _ (by kernel_rfl)
abbrev RunsTrue : Prop := ∀ W : World, Tz.GW 4 2 W → 11 ≤ W.heap.size → Calls Tryz.prog 3 #[] W fun e w' => e = .returned (.bool true) ∧ Go.Proofs.YtlffjnddiiojnaaGreatDoor.Ev.SameIo W w' ∧ W.heap.size ≤ w'.heap.size ∧ ∀ B, B < W.heap.size → w'.heap[B]? = W.heap[B]?
theorem lifted (tr : RunsTrue) (os : Os) (started : os.Started) (H : Type) (enc : TypeId × Value → H) :
    ReturnsInHanded {} Tryz.checked os 3 .any (fun w args => (Rows.runNamesSpec.pre enc Tryz.prog Tryz.f3 [] false w args ∧ laidMetH Tryz.prog Rows.runNamesRow.laid w) ∧ sizedMet enc Tryz.prog Tryz.f3 (OpenSpec.ofChange Rows.runNamesSpec) false w args)
      (Rows.runNamesSpec.post enc Tryz.prog Tryz.f3 false true false false) := by
  refine returnsInHanded_and_shaped (C := Tryz.checked) (X := fun w _ => laidMetH Tryz.prog Rows.runNamesRow.laid w) (fun _ _ _ hh h => h.of_heap hh) own started (by kernel_rfl) Tryz.func3
    (ChangeSpec.witness_shaped (enc := enc) (C := Tryz.checked) (os := os) (X := fun w _ => laidMetH Tryz.prog Rows.runNamesRow.laid w) false (World.laidAll Tryz.prog os Rows.runNamesRow.laid) #[] 8 (World.laidAll_os _ _ _)
      (World.shaped_of_ZipB (wit1 os) (wit2 os)) (wit3 os) (wit4 os H enc) (wit5 os H enc) (by rw [plainL]; exact laidMet_laidAll _ (wit6 os) (wit7 os))) ?_
  intro W base args ds gs before hval0 hW hsh hL
  have hW' := hW
  obtain ⟨p, q, hA0, hV, rfl, hfz, hnd⟩ := hW
  have hA : DataW.TrodAll enc Tryz.prog W 0 (fun _ => true) true Tryz.f3.params.toList args.toList ds p := hA0
  rw [Tryz.params3] at hA
  obtain ⟨hargs, rfl, rfl⟩ := trodAll_nil hA
  obtain rfl : args = #[] := by cases args; simp_all
  obtain ⟨rfl, rfl⟩ := trodVars_none hV
  clear hA0 hval0
  refine (tr W (gw hsh hL) (globs W hsh)).mono fun e W' ⟨he, hio, hsz, hk⟩ => ?_
  subst he
  exact ⟨_, rfl, _, _, _, [], _, [], hW', trodAll_mk1 (shut_bool under4 _), trodAll_mk0, rfl, io_kept hio hk _, fun h => by cases h⟩
end Go.Proofs.YtlffjnddiiojnaaGreatDoor
