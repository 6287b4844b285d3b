import Derived.Test.YtkgnabjcogmobaaGreatEvI
open Go Go.Proofs.YtkgnabjcogmobaaGreat.Ev
namespace Go.Proofs.YtkgnabjcogmobaaGreat.Tz
noncomputable def cr3t : Cx := ⟨mem, Go.Proofs.Tryz.prog, [(4, r4), (5, r5), (6, r6), (7, r7), (8, r8), (9, r9), (10, tru)], [], [], [], [0, 4, 1, 2, 3, 9, 12, 15, 17, 19, 22, 23], 288, 3⟩
noncomputable def r3t : FnS := fnS cr3t
theorem kr3t : FnOk V 3 r3t := fnS_ok (C := cr3t) (vs := vs) mem_ok rfl mo (fn_cons kr4 (fn_cons kr5 (fn_cons kr6 (fn_cons kr7 (fn_cons kr8 (fn_cons kr9 (fn_cons kr10' fn_nil))))))) yl_nil (by kernel_rfl) (.inl (by kernel_rfl))
theorem tr3 : isTrue (r3t.f .lf .empty) = true := by kernel_rfl
theorem all3 (w : World) : Calls Go.Proofs.Tryz.prog 3 #[] w fun e w' => e = .returned (.bool true) ∧ SameIo w w' ∧ w.heap.size ≤ w'.heap.size ∧ ∀ B, B < w.heap.size → w'.heap[B]? = w.heap[B]? := true_calls (V := V) kr3t tr3 w
end Go.Proofs.YtkgnabjcogmobaaGreat.Tz
#print axioms Go.Proofs.YtkgnabjcogmobaaGreat.Tz.all3
