import Derived.Test.YtbjcjppphoppfaaGreatRows
import Derived.ProofKit
set_option linter.all false
namespace Go.Proofs.YtbjcjppphoppfaaGreat
theorem YX {a b:Bool} (h:a=true) (k:b=true):(a&&b)=true:=by rw[h,k];rfl
theorem zT:ownKnob Tryz.prog.godebug=none:=by kernel_rfl
theorem GX:laidOutB Tryz.prog=true:=by kernel_rfl
theorem ZY:mapsRowed Tryz.prog=true:=by kernel_rfl
theorem ZZ:Tryz.prog.stopsHeard=true:=by kernel_rfl
theorem Z_:Tryz.prog.mayEnter=true:=by kernel_rfl
theorem Z':(Rows.absTellsRow.lifted==Tryz.prog.liftsFinal)=true:=by kernel_rfl
theorem a00:(Rows.absTellsRow.plainKeys==Tryz.prog.plainKeys)=true:=by kernel_rfl
theorem a01:(Tryz.prog.make==some Rows.absTellsRow.make)=true:=by kernel_rfl
theorem a02:(Rows.absTellsRow.inPlace==Tryz.prog.inPlace 3)=true:=by kernel_rfl
theorem a03:(Rows.absTellsRow.unfollowed==Tryz.prog.unfollowed 3)=true:=by kernel_rfl
theorem Wy:(Rows.absTellsRow.recurses==Tryz.prog.recurses 3)=true:=by kernel_rfl
theorem Wz:(Rows.absTellsRow.named==Tryz.prog.varsNamed 3)=true:=by kernel_rfl
theorem facts:joinedFacts Tryz.prog 3 Tryz.f3 Rows.absTellsSpec Rows.absTellsRow=true:=by
 unfold joinedFacts;with_reducible
  repeat' first|exact GX|exact ZY|exact ZZ|exact Z_|exact Z'|exact a00|exact a01|exact a02|exact a03|exact Wy|exact Wz|apply YX
 all_goals kernel_rfl
end Go.Proofs.YtbjcjppphoppfaaGreat
