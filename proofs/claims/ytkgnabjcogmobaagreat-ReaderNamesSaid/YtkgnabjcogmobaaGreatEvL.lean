import Derived.Test.YtkgnabjcogmobaaGreatEvJ
import Derived.Test.YtkgnabjcogmobaaGreatEvK
import Derived.Test.YtkgnabjcogmobaaGreatRows
import Derived.ProofKit
import Derived.OpenShut
import Derived.ChangeOld
import Derived.Below
/- wreckagelaw34.ReaderNames returns true, and leaves what there was as it was. No condition. -/
namespace Go.Proofs.YtkgnabjcogmobaaGreat
open Go.ChangeShapes Go.WideShapes Go.ChangeAt Go.RowKit
theorem Tryz.under4 : Tryz.prog.underlying 4 = some .bool := by kernel_rfl
theorem io_kept {w w' : World} (h : Go.Proofs.YtkgnabjcogmobaaGreat.Ev.SameIo w w') (hk : ∀ B, B < w.heap.size → w'.heap[B]? = w.heap[B]?) (may : MemPlace → Prop) : w.keptBut w' may := by
  refine ⟨h.1, h.2, fun i hi => ?_⟩
  rw [hk i hi]
  split <;> simp_all
set_option maxRecDepth 100000 in
theorem readerNames_lifted (os : Os) (started : os.Started) (H : Type) (enc : TypeId × Value → H) :
    ReturnsInHanded {} Tryz.checked os 3 .any (Rows.readerNamesSpec.pre6 enc Tryz.prog Tryz.f3 Rows.readerNamesRow.domain false) (Rows.readerNamesSpec.post enc Tryz.prog Tryz.f3 false true false false) := by
  refine returnsInHanded_of_change (C := Tryz.checked) readerNames_own started (by kernel_rfl) Tryz.func3
    (ChangeSpec.witness6 (enc := enc) (C := Tryz.checked) false ⟨#[], #[], []⟩ 8 (by kernel_rfl) (by kernel_rfl) (by kernel_rfl) (by kernel_rfl)) ?_
  intro W base args ds gs before hval0 hW hcnd _
  have hW' := hW
  obtain ⟨p, q, hA0, hV, rfl, hfz, hnd⟩ := hW
  have hA : DataW.TrodAll enc Tryz.prog W 0 (fun _ => true) true Tryz.f3.params.toList args.toList ds p := hA0
  rw [Tryz.params3] at hA
  obtain ⟨hargs, rfl, rfl⟩ := trodAll_nil hA
  obtain rfl : args = #[] := by cases args; simp_all
  obtain ⟨rfl, rfl⟩ := trodVars_none hV
  clear hA0 hval0
  refine (Go.Proofs.YtkgnabjcogmobaaGreat.Tz.all3 W).mono fun e W' ⟨he, hio, hsz, hk⟩ => ?_
  subst he
  exact ⟨_, rfl, _, _, _, [], _, [], hW', trodAll_mk1 (shut_bool Tryz.under4 _), trodAll_mk0, rfl, io_kept hio hk _, fun h => by cases h⟩
theorem readerNames_holds : Rows.ReaderNamesSaid :=
  OpenClaim.holds_of_wide 3 Tryz.f3 rfl rfl rfl rfl rfl rfl rfl ⟨rfl, rfl, rfl, rfl, rfl⟩ rfl rfl rfl rfl rfl (by kernel_rfl) Tryz.func3 facts
    (of_decide_eq_true (by kernel_rfl)) (by unfold Func.isWrapper; first | (rw [if_pos (by decide +kernel)]; kernel_rfl) | (rw [if_neg (by decide +kernel)]; exact ⟨rfl, rfl⟩))
    (fun os started H enc _ => readerNames_lifted os started H enc)
#print axioms readerNames_holds
end Go.Proofs.YtkgnabjcogmobaaGreat
