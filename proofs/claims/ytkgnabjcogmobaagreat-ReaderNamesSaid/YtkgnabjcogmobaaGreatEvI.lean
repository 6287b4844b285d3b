import Derived.Test.YtkgnabjcogmobaaGreatEvH
open Go Go.Proofs.YtkgnabjcogmobaaGreat.Ev
namespace Go.Proofs.YtkgnabjcogmobaaGreat.Tz
theorem tr10 : isTrue (r10.f .lf .empty) = true := by kernel_rfl
theorem kr10' : FnOk V 10 tru := tru_ok kr10 tr10
end Go.Proofs.YtkgnabjcogmobaaGreat.Tz
