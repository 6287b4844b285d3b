/-
  NARROWER THAN 'FOR EVERY INPUT', by the rows' own cells (each row's printed sentence says how): ReaderSame: loops · AbsBones: loops · CostCounts: loops.
  DERIVED. THE GIVEN ROWS OF THIS SEAT. 4 by the template 'for every input the law returns true; each argument reads behind the call as it read before'; 0 by the template 'total and deterministic' (their statements: YtflbiiflbehleaaTotals.lean).
  GIVEN WITH THE SEED: the statements are not yours to turn. If you find one false, say at which input.
  Laid BY PROGRAM, IN A SANDBOX (cutbox-rows.mjs): the forced cells as the released guide's own fill.sh prints them over the translation bcdd583cf1b1dd55… (all of the seat's roots in one cut). By AI agents, Wed Nov 11 2026. No macro, syntax, notation, axiom, sorry.
-/
import Derived.Test.YtflbiiflbehleaaChecked
import GoSem.Claim
import GoSem.ClaimJoined
import GoSem.ClaimMapViews
import Derived.JoinedTies
import Derived.KernelRfl
namespace Go.Proofs.Ytflbiiflbehleaa
/- THE CELL 'sum', in the pinned program and in every row, IS THE sha256 OF THE DUMP (.gsa) THAT YtflbiiflbehleaaProg.lean LOADS. Nothing in Lean hashes anything: it is a label: what it is worth is what the hold of that sum in a sandbox is worth. -/
noncomputable def Try.pinned : Pinned := { name := "ytflbiiflbehleaa", sum := "bcdd583cf1b1dd55de77870dbb41c0f91bef447dac1ea074b9ce939d71cc2d40", checked := Try.checked }
namespace Rows
def none {H : Type} : Left H := { results := [], args := [] }

/-- 'wreckagelaw34.ReaderSame': WHATEVER THE INPUT: true; the input reads as it did. -/
def readerSameSpec : ChangeSpec := { name := "readerSame", fn := fun _ => fun
  | [d1, d2] => { results := [.lit (.bool true)], args := [d1, d2] }
  | _ => none }
def readerSameRow : OpenClaim := { program := "ytflbiiflbehleaa", sum := "bcdd583cf1b1dd55de77870dbb41c0f91bef447dac1ea074b9ce939d71cc2d40", func := "wreckage/wreckagelaw34.ReaderSame", spec := "readerSame", unfollowed := true, recurses := true, loops := true, apart := false }
def ReaderSameSaid : Prop := readerSameRow.holds Try.pinned (OpenSpec.ofChange readerSameSpec)

/-- ITS FALSE NEIGHBOUR: 'it returns false'. Refute it at one input. -/
def readerSameWrong : ChangeSpec := { name := "readerSame", fn := fun _ => fun
  | [d1, d2] => { results := [.lit (.bool false)], args := [d1, d2] }
  | _ => none }
def ReaderSameWrongFalsely : Prop := readerSameRow.holds Try.pinned (OpenSpec.ofChange readerSameWrong)

/-- 'wreckagelaw42.DamageDoes': WHATEVER THE INPUT: true; the input reads as it did. -/
def damageDoesSpec : ChangeSpec := { name := "damageDoes", fn := fun _ => fun
  | [d1, d2, d3, d4, d5] => { results := [.lit (.bool true)], args := [d1, d2, d3, d4, d5] }
  | _ => none }
def damageDoesRow : OpenClaim := { program := "ytflbiiflbehleaa", sum := "bcdd583cf1b1dd55de77870dbb41c0f91bef447dac1ea074b9ce939d71cc2d40", func := "wreckage/wreckagelaw42.DamageDoes", spec := "damageDoes", unfollowed := true, recurses := true, apart := false }
def DamageDoesSaid : Prop := damageDoesRow.holds Try.pinned (OpenSpec.ofChange damageDoesSpec)

/-- ITS FALSE NEIGHBOUR: 'it returns false'. Refute it at one input. -/
def damageDoesWrong : ChangeSpec := { name := "damageDoes", fn := fun _ => fun
  | [d1, d2, d3, d4, d5] => { results := [.lit (.bool false)], args := [d1, d2, d3, d4, d5] }
  | _ => none }
def DamageDoesWrongFalsely : Prop := damageDoesRow.holds Try.pinned (OpenSpec.ofChange damageDoesWrong)

/-- 'wreckagelaw36.AbsBones': WHATEVER THE INPUT: true; the input reads as it did. -/
def absBonesSpec : ChangeSpec := { name := "absBones", fn := fun _ => fun
  | [d1, d2] => { results := [.lit (.bool true)], args := [d1, d2] }
  | _ => none }
def absBonesRow : OpenClaim := { program := "ytflbiiflbehleaa", sum := "bcdd583cf1b1dd55de77870dbb41c0f91bef447dac1ea074b9ce939d71cc2d40", func := "wreckage/wreckagelaw36.AbsBones", spec := "absBones", unfollowed := true, recurses := true, loops := true, apart := false }
def AbsBonesSaid : Prop := absBonesRow.holds Try.pinned (OpenSpec.ofChange absBonesSpec)

/-- ITS FALSE NEIGHBOUR: 'it returns false'. Refute it at one input. -/
def absBonesWrong : ChangeSpec := { name := "absBones", fn := fun _ => fun
  | [d1, d2] => { results := [.lit (.bool false)], args := [d1, d2] }
  | _ => none }
def AbsBonesWrongFalsely : Prop := absBonesRow.holds Try.pinned (OpenSpec.ofChange absBonesWrong)

/-- 'wreckagelaw41.CostCounts': WHATEVER THE INPUT: true; the input reads as it did. -/
def costCountsSpec : ChangeSpec := { name := "costCounts", fn := fun _ => fun
  | [d1, d2, d3] => { results := [.lit (.bool true)], args := [d1, d2, d3] }
  | _ => none }
def costCountsRow : OpenClaim := { program := "ytflbiiflbehleaa", sum := "bcdd583cf1b1dd55de77870dbb41c0f91bef447dac1ea074b9ce939d71cc2d40", func := "wreckage/wreckagelaw41.CostCounts", spec := "costCounts", unfollowed := true, recurses := true, loops := true, apart := false }
def CostCountsSaid : Prop := costCountsRow.holds Try.pinned (OpenSpec.ofChange costCountsSpec)

/-- ITS FALSE NEIGHBOUR: 'it returns false'. Refute it at one input. -/
def costCountsWrong : ChangeSpec := { name := "costCounts", fn := fun _ => fun
  | [d1, d2, d3] => { results := [.lit (.bool false)], args := [d1, d2, d3] }
  | _ => none }
def CostCountsWrongFalsely : Prop := costCountsRow.holds Try.pinned (OpenSpec.ofChange costCountsWrong)

/- THE SECOND FORM. 'bulk': how many values and letters a reading holds, each counted each time it is reached (what is shared counts as often as it is met; a slice's spare places count too). A statement '..UptoSaid' is the law's where the arguments, and the package variables that the reading takes, are together of bulk at most 1048576: NARROWER than '..Said'. Prove '..Said' where nothing that the law and all that it calls make is longer than what came in: it says more and counts as full. Else prove '..UptoSaid'. A law counts once. -/
mutual
def uptoBulk {H : Type} : DataW H → Nat
  | .lit (.string bytes) => bytes.length + 1
  | .lit _ => 1
  | .nil => 1
  | .ptr d => uptoBulk d + 1
  | .slice elems spare => uptoBulkAll elems + uptoBulkAll spare + 1
  | .agg parts => uptoBulkAll parts + 1
  | .iface _ d => uptoBulk d + 1
  | .map entries => uptoBulkEntries entries + 1
  | .held _ => 1
def uptoBulkAll {H : Type} : List (DataW H) → Nat
  | [] => 0
  | d :: r => uptoBulk d + uptoBulkAll r
def uptoBulkEntries {H : Type} : List (Lit × DataW H) → Nat
  | [] => 0
  | x :: r => uptoBulkEntry x + uptoBulkEntries r
def uptoBulkEntry {H : Type} : Lit × DataW H → Nat
  | (.string bytes, d) => bytes.length + uptoBulk d + 1
  | (_, d) => uptoBulk d + 1
 end
def uptoSmall : (H : Type) → List (DataW H) → Bool := fun _ ds => decide (uptoBulkAll ds ≤ 1048576)
def OpenSpec.upto (s : _root_.Go.ChangeSpec) : _root_.Go.OpenSpec := { _root_.Go.OpenSpec.ofChange s with cond := some uptoSmall }

/-- 'wreckagelaw34.ReaderSame', WHERE WHAT IT READS IS OF BULK AT MOST 1048576: true; the input reads as it did. -/
def readerSameUptoRow : OpenClaim := { program := "ytflbiiflbehleaa", sum := "bcdd583cf1b1dd55de77870dbb41c0f91bef447dac1ea074b9ce939d71cc2d40", func := "wreckage/wreckagelaw34.ReaderSame", spec := "readerSame", unfollowed := true, recurses := true, loops := true, apart := false, narrowed := true }
def ReaderSameUptoSaid : Prop := readerSameUptoRow.holds Try.pinned (OpenSpec.upto readerSameSpec)

/-- 'wreckagelaw42.DamageDoes', WHERE WHAT IT READS IS OF BULK AT MOST 1048576: true; the input reads as it did. -/
def damageDoesUptoRow : OpenClaim := { program := "ytflbiiflbehleaa", sum := "bcdd583cf1b1dd55de77870dbb41c0f91bef447dac1ea074b9ce939d71cc2d40", func := "wreckage/wreckagelaw42.DamageDoes", spec := "damageDoes", unfollowed := true, recurses := true, apart := false, narrowed := true }
def DamageDoesUptoSaid : Prop := damageDoesUptoRow.holds Try.pinned (OpenSpec.upto damageDoesSpec)

/-- 'wreckagelaw36.AbsBones', WHERE WHAT IT READS IS OF BULK AT MOST 1048576: true; the input reads as it did. -/
def absBonesUptoRow : OpenClaim := { program := "ytflbiiflbehleaa", sum := "bcdd583cf1b1dd55de77870dbb41c0f91bef447dac1ea074b9ce939d71cc2d40", func := "wreckage/wreckagelaw36.AbsBones", spec := "absBones", unfollowed := true, recurses := true, loops := true, apart := false, narrowed := true }
def AbsBonesUptoSaid : Prop := absBonesUptoRow.holds Try.pinned (OpenSpec.upto absBonesSpec)

/-- 'wreckagelaw41.CostCounts', WHERE WHAT IT READS IS OF BULK AT MOST 1048576: true; the input reads as it did. -/
def costCountsUptoRow : OpenClaim := { program := "ytflbiiflbehleaa", sum := "bcdd583cf1b1dd55de77870dbb41c0f91bef447dac1ea074b9ce939d71cc2d40", func := "wreckage/wreckagelaw41.CostCounts", spec := "costCounts", unfollowed := true, recurses := true, loops := true, apart := false, narrowed := true }
def CostCountsUptoSaid : Prop := costCountsUptoRow.holds Try.pinned (OpenSpec.upto costCountsSpec)

end Rows
end Go.Proofs.Ytflbiiflbehleaa
