import Derived.Test.YtlffjnddiiojnaaGreatDoorEvI
/- Values of functions. -/
open Go Go.Proofs.YtlffjnddiiojnaaGreatDoor.Ev
namespace Go.Proofs.YtlffjnddiiojnaaGreatDoor.Tz
theorem e30_275 : (cptF q30).f a30_275 .empty = .val v30_275 h30_275 := by kernel_rfl
theorem e30_277 : (cptF q30).f a30_277 .empty = .val v30_277 h30_277 := by kernel_rfl
theorem e30_279 : (cptF q30).f a30_279 .empty = .val v30_279 h30_279 := by kernel_rfl
theorem e30_286 : (cptF q30).f a30_286 .empty = .val v30_286 h30_286 := by kernel_rfl
theorem e30_288 : (cptF q30).f a30_288 .empty = .val v30_288 h30_288 := by kernel_rfl
theorem e30_290 : (cptF q30).f a30_290 .empty = .val v30_290 h30_290 := by kernel_rfl
theorem e30_292 : (cptF q30).f a30_292 .empty = .val v30_292 h30_292 := by kernel_rfl
theorem e30_294 : (cptF q30).f a30_294 .empty = .val v30_294 h30_294 := by kernel_rfl
theorem e30_296 : (cptF q30).f a30_296 .empty = .val v30_296 h30_296 := by kernel_rfl
theorem e30_327 : (cptF q30).f a30_327 .empty = .val v30_327 h30_327 := by kernel_rfl
theorem e30_329 : (cptF q30).f a30_329 .empty = .val v30_329 h30_329 := by kernel_rfl
theorem e30_331 : (cptF q30).f a30_331 .empty = .val v30_331 h30_331 := by kernel_rfl
end Go.Proofs.YtlffjnddiiojnaaGreatDoor.Tz
