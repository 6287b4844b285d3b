import Derived.Test.YtdlohaedegmiaaaGreatDoorEvAQ
import Derived.Test.YtdlohaedegmiaaaGreatDoorEvAR
import Derived.Test.YtdlohaedegmiaaaGreatDoorEvAS
namespace Go.Proofs.YtdlohaedegmiaaaGreatDoor
open Go
theorem holds (tr : lz) : Rows.TraceNamesSaid :=
  OpenClaim.holds_of_wide 3 Tryz.f3 rfl rfl rfl rfl rfl rfl rfl ⟨rfl, rfl, rfl, rfl, rfl⟩ rfl rfl rfl rfl rfl (by kernel_rfl) Tryz.func3 facts
    (of_decide_eq_true (by kernel_rfl)) (by unfold Func.isWrapper; first | (rw [if_pos (by decide +kernel)]; kernel_rfl) | (rw [if_neg (by decide +kernel)]; exact ⟨rfl, rfl⟩))
    (fun os started H enc _ => lifted tr os started H enc)
theorem ud (tr : lz) : Rows.TraceNamesCardSaid :=
  Claim7.holds_tied_plain_at .later [] [.data, .data, .data, .data, .sentinel, .sentinel, .listed, .data, .pinned] true (true, "9e0b57fda6a7d87b34b1ed83ff569ec22706681afc66bbbf2c1b2e61e04849fb") true
    (holds tr) (fun _ h => by cases h) cd1 (fun _ h => by cases h) traceNames_row_tie rfl ⟨rfl, rfl⟩ cd2 rfl
    (fun f fn hf hfn => by
      obtain rfl : f = 3 := Option.some.inj (cd3.symm.trans hf) |>.symm
      obtain rfl : fn = Tryz.f3 := (Option.some.inj (Tryz.func3.symm.trans hfn)).symm
      exact ⟨cd4, fun j t ht => by
        rw [Tryz.params3] at ht
        simp at ht⟩)
    cd5
end Go.Proofs.YtdlohaedegmiaaaGreatDoor
