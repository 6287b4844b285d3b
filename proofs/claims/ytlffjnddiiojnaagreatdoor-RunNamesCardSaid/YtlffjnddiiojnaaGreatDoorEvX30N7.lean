import Derived.Test.YtlffjnddiiojnaaGreatDoorEvI
/- Values of functions. -/
open Go Go.Proofs.YtlffjnddiiojnaaGreatDoor.Ev
namespace Go.Proofs.YtlffjnddiiojnaaGreatDoor.Tz
theorem e30_192 : (cptF q30).f a30_192 .empty = .val v30_192 h30_192 := by kernel_rfl
theorem e30_194 : (cptF q30).f a30_194 .empty = .val v30_194 h30_194 := by kernel_rfl
theorem e30_196 : (cptF q30).f a30_196 .empty = .val v30_196 h30_196 := by kernel_rfl
theorem e30_198 : (cptF q30).f a30_198 .empty = .val v30_198 h30_198 := by kernel_rfl
theorem e30_200 : (cptF q30).f a30_200 .empty = .val v30_200 h30_200 := by kernel_rfl
theorem e30_202 : (cptF q30).f a30_202 .empty = .val v30_202 h30_202 := by kernel_rfl
theorem e30_204 : (cptF q30).f a30_204 .empty = .val v30_204 h30_204 := by kernel_rfl
theorem e30_206 : (cptF q30).f a30_206 .empty = .val v30_206 h30_206 := by kernel_rfl
theorem e30_208 : (cptF q30).f a30_208 .empty = .val v30_208 h30_208 := by kernel_rfl
theorem e30_210 : (cptF q30).f a30_210 .empty = .val v30_210 h30_210 := by kernel_rfl
theorem e30_212 : (cptF q30).f a30_212 .empty = .val v30_212 h30_212 := by kernel_rfl
theorem e30_214 : (cptF q30).f a30_214 .empty = .val v30_214 h30_214 := by kernel_rfl
end Go.Proofs.YtlffjnddiiojnaaGreatDoor.Tz
