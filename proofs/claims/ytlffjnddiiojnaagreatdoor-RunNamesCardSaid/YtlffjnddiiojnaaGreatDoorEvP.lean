import Derived.Test.YtlffjnddiiojnaaGreatDoorEvM
import Derived.Test.YtlffjnddiiojnaaGreatDoorEvN
import Derived.Test.YtlffjnddiiojnaaGreatDoorEvO
/- The row and the card. -/
namespace Go.Proofs.YtlffjnddiiojnaaGreatDoor
open Go
theorem holds (tr : RunsTrue) : Rows.RunNamesSaid :=
  OpenClaim.holds_of_wide 3 Tryz.f3 rfl rfl rfl rfl rfl rfl rfl ⟨rfl, rfl, rfl, rfl, rfl⟩ rfl rfl rfl rfl rfl (by kernel_rfl) Tryz.func3 facts
    (of_decide_eq_true (by kernel_rfl)) (by unfold Func.isWrapper; first | (rw [if_pos (by decide +kernel)]; kernel_rfl) | (rw [if_neg (by decide +kernel)]; exact ⟨rfl, rfl⟩))
    (fun os started H enc _ => lifted tr os started H enc)
theorem card_holds (tr : RunsTrue) : Rows.RunNamesCardSaid :=
  Claim7.holds_tied_plain_at .later [] [.data, .data, .data, .data, .sentinel, .sentinel, .listed, .data, .pinned] true (true, "80b7d7acf106ccde08b02d605696d822312913cd1857f367b5befebfa4054e9c") true
    (holds tr) (fun _ h => by cases h) cd1 (fun _ h => by cases h) runNames_row_tie rfl ⟨rfl, rfl⟩ cd2 rfl
    (fun f fn hf hfn => by
      obtain rfl : f = 3 := Option.some.inj (cd3.symm.trans hf) |>.symm
      obtain rfl : fn = Tryz.f3 := (Option.some.inj (Tryz.func3.symm.trans hfn)).symm
      exact ⟨cd4, fun j t ht => by
        rw [Tryz.params3] at ht
        simp at ht⟩)
    cd5
end Go.Proofs.YtlffjnddiiojnaaGreatDoor
