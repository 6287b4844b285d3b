import Derived.Test.YtlffjnddiiojnaaGreatDoorEvI
/- Values of functions. -/
open Go Go.Proofs.YtlffjnddiiojnaaGreatDoor.Ev
namespace Go.Proofs.YtlffjnddiiojnaaGreatDoor.Tz
theorem e32_0 : (cptF q32).f a32_0 .empty = .val v32_0 h32_0 := by kernel_rfl
theorem e32_27 : (cptF q32).f a32_27 .empty = .val v32_27 h32_27 := by kernel_rfl
theorem e32_59 : (cptF q32).f a32_59 .empty = .val v32_59 h32_59 := by kernel_rfl
theorem e32_91 : (cptF q32).f a32_91 .empty = .val v32_91 h32_91 := by kernel_rfl
theorem e32_229 : (cptF q32).f a32_229 .empty = .val v32_229 h32_229 := by kernel_rfl
theorem e32_250 : (cptF q32).f a32_250 .empty = .val v32_250 h32_250 := by kernel_rfl
theorem e32_282 : (cptF q32).f a32_282 .empty = .val v32_282 h32_282 := by kernel_rfl
theorem e32_299 : (cptF q32).f a32_299 .empty = .val v32_299 h32_299 := by kernel_rfl
theorem e18_1 : (cptF q18).f a18_1 .empty = .val v18_1 h18_1 := by kernel_rfl
theorem e18_28 : (cptF q18).f a18_28 .empty = .val v18_28 h18_28 := by kernel_rfl
theorem e18_60 : (cptF q18).f a18_60 .empty = .val v18_60 h18_60 := by kernel_rfl
theorem e18_92 : (cptF q18).f a18_92 .empty = .val v18_92 h18_92 := by kernel_rfl
end Go.Proofs.YtlffjnddiiojnaaGreatDoor.Tz
