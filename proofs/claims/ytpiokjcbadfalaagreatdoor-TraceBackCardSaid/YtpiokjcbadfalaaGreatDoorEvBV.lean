/- For every image, list of marks, ending and string, wreckagelaw45.TraceBack returns true and leaves its arguments as they were: marks and their lines, traces and their texts are inverse. No condition beyond the law's own bounds. -/
import Derived.Test.YtpiokjcbadfalaaGreatDoorEvBS
import Derived.Test.YtpiokjcbadfalaaGreatDoorEvBT
import Derived.Test.YtpiokjcbadfalaaGreatDoorEvBU
namespace Go.Proofs.YtpiokjcbadfalaaGreatDoor
open Go
set_option maxRecDepth 100000
theorem holds : Rows.TraceBackSaid :=
  OpenClaim.holds_of_wide 3 Tryz.f3 rfl rfl rfl rfl rfl rfl rfl ⟨rfl,rfl,rfl,rfl,rfl⟩ rfl rfl rfl rfl rfl (by kernel_rfl) Tryz.func3 facts
    (of_decide_eq_true (by kernel_rfl)) (by unfold Func.isWrapper; first | (rw [if_pos (by decide +kernel)]; kernel_rfl) | (rw [if_neg (by decide +kernel)]; exact ⟨rfl,rfl⟩))
    (fun os started H enc _=>lifted os started H enc)
theorem cd6 : Tryz.f3.params.toList.all (fun t=>!(Tryz.pinned.checked.prog.wantsStandIn t)) = true := by kernel_rfl
theorem traceBack_card : Rows.TraceBackCardSaid :=
  Claim7.holds_tied_plain_at .later [] [.data,.data,.data,.data,.sentinel,.sentinel,.listed,.data,.pinned] true (true,"3c9945cb55281378f579b29a40ec6765601f4053eaef404e0ac5cb6139493818") true
    holds (fun _ h=>by cases h) cd1 (fun _ h=>by cases h) traceBack_row_tie rfl ⟨rfl,rfl⟩ cd2 rfl
    (fun f fn hf hfn=>by
      obtain rfl : f = 3 := Option.some.inj (cd3.symm.trans hf) |>.symm
      obtain rfl : fn = Tryz.f3 := (Option.some.inj (Tryz.func3.symm.trans hfn)).symm
      exact ⟨cd4,fun j t ht=>by
        have h := List.all_eq_true.1 cd6 t (List.mem_of_getElem? (by rw [Array.getElem?_toList]; exact ht))
        simpa using h⟩)
    cd5
end Go.Proofs.YtpiokjcbadfalaaGreatDoor
