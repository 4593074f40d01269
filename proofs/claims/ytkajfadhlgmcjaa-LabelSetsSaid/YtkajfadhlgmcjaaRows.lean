/-
  No cell of these rows narrows 'for every input' (looked for: loops, veiled, ifaces, maps, wideKeys, modest, calm, conditions, laid).
  DERIVED. THE GIVEN ROWS OF THIS SEAT. 12 by the template 'for every input the law returns true; each argument reads behind the call as it read before'; 0 by the template 'total and deterministic' (their statements: YtkajfadhlgmcjaaTotals.lean).
  GIVEN WITH THE SEED: the statements are not yours to turn. If you find one false, say at which input.
  Laid BY PROGRAM, IN A SANDBOX (cutbox-rows.mjs): the forced cells as the released guide's own fill.sh prints them over the translation 0d9817abd03f465a… (all of the seat's roots in one cut). By AI agents, Wed Nov 11 2026. No macro, syntax, notation, axiom, sorry.
-/
import Derived.Test.YtkajfadhlgmcjaaChecked
import GoSem.Claim
import GoSem.ClaimJoined
import GoSem.ClaimMapViews
import Derived.JoinedTies
import Derived.KernelRfl
namespace Go.Proofs.Ytkajfadhlgmcjaa
/- THE CELL 'sum', in the pinned program and in every row, IS THE sha256 OF THE DUMP (.gsa) THAT YtkajfadhlgmcjaaProg.lean LOADS. Nothing in Lean hashes anything: it is a label: what it is worth is what the hold of that sum in a sandbox is worth. -/
noncomputable def Try.pinned : Pinned := { name := "ytkajfadhlgmcjaa", sum := "0d9817abd03f465a0e5a30ddfd129f305cfb33a93f4d210bd1177511682e5e0e", checked := Try.checked }
namespace Rows
def none {H : Type} : Left H := { results := [], args := [] }

/-- 'curtilagelaw02.LabelOrder': WHATEVER THE INPUT: true; the input reads as it did. -/
def labelOrderSpec : ChangeSpec := { name := "labelOrder", fn := fun _ => fun
  | [d1, d2, d3] => { results := [.lit (.bool true)], args := [d1, d2, d3] }
  | _ => none }
def labelOrderRow : OpenClaim := { program := "ytkajfadhlgmcjaa", sum := "0d9817abd03f465a0e5a30ddfd129f305cfb33a93f4d210bd1177511682e5e0e", func := "curtilage/curtilagelaw02.LabelOrder", spec := "labelOrder", unfollowed := true, recurses := true, apart := false }
def LabelOrderSaid : Prop := labelOrderRow.holds Try.pinned (OpenSpec.ofChange labelOrderSpec)

/-- ITS FALSE NEIGHBOUR: 'it returns false'. Refute it at one input. -/
def labelOrderWrong : ChangeSpec := { name := "labelOrder", fn := fun _ => fun
  | [d1, d2, d3] => { results := [.lit (.bool false)], args := [d1, d2, d3] }
  | _ => none }
def LabelOrderWrongFalsely : Prop := labelOrderRow.holds Try.pinned (OpenSpec.ofChange labelOrderWrong)

/-- 'curtilagelaw02.LabelSpreads': WHATEVER THE INPUT: true; the input reads as it did. -/
def labelSpreadsSpec : ChangeSpec := { name := "labelSpreads", fn := fun _ => fun
  | [d1, d2, d3] => { results := [.lit (.bool true)], args := [d1, d2, d3] }
  | _ => none }
def labelSpreadsRow : OpenClaim := { program := "ytkajfadhlgmcjaa", sum := "0d9817abd03f465a0e5a30ddfd129f305cfb33a93f4d210bd1177511682e5e0e", func := "curtilage/curtilagelaw02.LabelSpreads", spec := "labelSpreads", unfollowed := true, recurses := true, apart := false }
def LabelSpreadsSaid : Prop := labelSpreadsRow.holds Try.pinned (OpenSpec.ofChange labelSpreadsSpec)

/-- ITS FALSE NEIGHBOUR: 'it returns false'. Refute it at one input. -/
def labelSpreadsWrong : ChangeSpec := { name := "labelSpreads", fn := fun _ => fun
  | [d1, d2, d3] => { results := [.lit (.bool false)], args := [d1, d2, d3] }
  | _ => none }
def LabelSpreadsWrongFalsely : Prop := labelSpreadsRow.holds Try.pinned (OpenSpec.ofChange labelSpreadsWrong)

/-- 'curtilagelaw02.LabelPoints': WHATEVER THE INPUT: true; the input reads as it did. -/
def labelPointsSpec : ChangeSpec := { name := "labelPoints", fn := fun _ => fun
  | [d1, d2, d3] => { results := [.lit (.bool true)], args := [d1, d2, d3] }
  | _ => none }
def labelPointsRow : OpenClaim := { program := "ytkajfadhlgmcjaa", sum := "0d9817abd03f465a0e5a30ddfd129f305cfb33a93f4d210bd1177511682e5e0e", func := "curtilage/curtilagelaw02.LabelPoints", spec := "labelPoints", unfollowed := true, recurses := true, apart := false }
def LabelPointsSaid : Prop := labelPointsRow.holds Try.pinned (OpenSpec.ofChange labelPointsSpec)

/-- ITS FALSE NEIGHBOUR: 'it returns false'. Refute it at one input. -/
def labelPointsWrong : ChangeSpec := { name := "labelPoints", fn := fun _ => fun
  | [d1, d2, d3] => { results := [.lit (.bool false)], args := [d1, d2, d3] }
  | _ => none }
def LabelPointsWrongFalsely : Prop := labelPointsRow.holds Try.pinned (OpenSpec.ofChange labelPointsWrong)

/-- 'curtilagelaw02.LabelOwns': WHATEVER THE INPUT: true; the input reads as it did. -/
def labelOwnsSpec : ChangeSpec := { name := "labelOwns", fn := fun _ => fun
  | [d1, d2, d3] => { results := [.lit (.bool true)], args := [d1, d2, d3] }
  | _ => none }
def labelOwnsRow : OpenClaim := { program := "ytkajfadhlgmcjaa", sum := "0d9817abd03f465a0e5a30ddfd129f305cfb33a93f4d210bd1177511682e5e0e", func := "curtilage/curtilagelaw02.LabelOwns", spec := "labelOwns", unfollowed := true, recurses := true, apart := false }
def LabelOwnsSaid : Prop := labelOwnsRow.holds Try.pinned (OpenSpec.ofChange labelOwnsSpec)

/-- ITS FALSE NEIGHBOUR: 'it returns false'. Refute it at one input. -/
def labelOwnsWrong : ChangeSpec := { name := "labelOwns", fn := fun _ => fun
  | [d1, d2, d3] => { results := [.lit (.bool false)], args := [d1, d2, d3] }
  | _ => none }
def LabelOwnsWrongFalsely : Prop := labelOwnsRow.holds Try.pinned (OpenSpec.ofChange labelOwnsWrong)

/-- 'curtilagelaw03.CheckAbove': WHATEVER THE INPUT: true; the input reads as it did. -/
def checkAboveSpec : ChangeSpec := { name := "checkAbove", fn := fun _ => fun
  | [d1, d2, d3, d4] => { results := [.lit (.bool true)], args := [d1, d2, d3, d4] }
  | _ => none }
def checkAboveRow : OpenClaim := { program := "ytkajfadhlgmcjaa", sum := "0d9817abd03f465a0e5a30ddfd129f305cfb33a93f4d210bd1177511682e5e0e", func := "curtilage/curtilagelaw03.CheckAbove", spec := "checkAbove", unfollowed := true, recurses := true, apart := false }
def CheckAboveSaid : Prop := checkAboveRow.holds Try.pinned (OpenSpec.ofChange checkAboveSpec)

/-- ITS FALSE NEIGHBOUR: 'it returns false'. Refute it at one input. -/
def checkAboveWrong : ChangeSpec := { name := "checkAbove", fn := fun _ => fun
  | [d1, d2, d3, d4] => { results := [.lit (.bool false)], args := [d1, d2, d3, d4] }
  | _ => none }
def CheckAboveWrongFalsely : Prop := checkAboveRow.holds Try.pinned (OpenSpec.ofChange checkAboveWrong)

/-- 'curtilagelaw03.CheckSame': WHATEVER THE INPUT: true; the input reads as it did. -/
def checkSameSpec : ChangeSpec := { name := "checkSame", fn := fun _ => fun
  | [d1, d2] => { results := [.lit (.bool true)], args := [d1, d2] }
  | _ => none }
def checkSameRow : OpenClaim := { program := "ytkajfadhlgmcjaa", sum := "0d9817abd03f465a0e5a30ddfd129f305cfb33a93f4d210bd1177511682e5e0e", func := "curtilage/curtilagelaw03.CheckSame", spec := "checkSame", unfollowed := true, recurses := true, apart := false }
def CheckSameSaid : Prop := checkSameRow.holds Try.pinned (OpenSpec.ofChange checkSameSpec)

/-- ITS FALSE NEIGHBOUR: 'it returns false'. Refute it at one input. -/
def checkSameWrong : ChangeSpec := { name := "checkSame", fn := fun _ => fun
  | [d1, d2] => { results := [.lit (.bool false)], args := [d1, d2] }
  | _ => none }
def CheckSameWrongFalsely : Prop := checkSameRow.holds Try.pinned (OpenSpec.ofChange checkSameWrong)

/-- 'curtilagelaw03.CheckBoth': WHATEVER THE INPUT: true; the input reads as it did. -/
def checkBothSpec : ChangeSpec := { name := "checkBoth", fn := fun _ => fun
  | [d1, d2, d3] => { results := [.lit (.bool true)], args := [d1, d2, d3] }
  | _ => none }
def checkBothRow : OpenClaim := { program := "ytkajfadhlgmcjaa", sum := "0d9817abd03f465a0e5a30ddfd129f305cfb33a93f4d210bd1177511682e5e0e", func := "curtilage/curtilagelaw03.CheckBoth", spec := "checkBoth", unfollowed := true, recurses := true, apart := false }
def CheckBothSaid : Prop := checkBothRow.holds Try.pinned (OpenSpec.ofChange checkBothSpec)

/-- ITS FALSE NEIGHBOUR: 'it returns false'. Refute it at one input. -/
def checkBothWrong : ChangeSpec := { name := "checkBoth", fn := fun _ => fun
  | [d1, d2, d3] => { results := [.lit (.bool false)], args := [d1, d2, d3] }
  | _ => none }
def CheckBothWrongFalsely : Prop := checkBothRow.holds Try.pinned (OpenSpec.ofChange checkBothWrong)

/-- 'curtilagelaw03.CheckSteps': WHATEVER THE INPUT: true; the input reads as it did. -/
def checkStepsSpec : ChangeSpec := { name := "checkSteps", fn := fun _ => fun
  | [d1, d2, d3, d4] => { results := [.lit (.bool true)], args := [d1, d2, d3, d4] }
  | _ => none }
def checkStepsRow : OpenClaim := { program := "ytkajfadhlgmcjaa", sum := "0d9817abd03f465a0e5a30ddfd129f305cfb33a93f4d210bd1177511682e5e0e", func := "curtilage/curtilagelaw03.CheckSteps", spec := "checkSteps", unfollowed := true, recurses := true, apart := false }
def CheckStepsSaid : Prop := checkStepsRow.holds Try.pinned (OpenSpec.ofChange checkStepsSpec)

/-- ITS FALSE NEIGHBOUR: 'it returns false'. Refute it at one input. -/
def checkStepsWrong : ChangeSpec := { name := "checkSteps", fn := fun _ => fun
  | [d1, d2, d3, d4] => { results := [.lit (.bool false)], args := [d1, d2, d3, d4] }
  | _ => none }
def CheckStepsWrongFalsely : Prop := checkStepsRow.holds Try.pinned (OpenSpec.ofChange checkStepsWrong)

/-- 'curtilagelaw03.CheckTold': WHATEVER THE INPUT: true; the input reads as it did. -/
def checkToldSpec : ChangeSpec := { name := "checkTold", fn := fun _ => fun
  | [d1, d2, d3, d4] => { results := [.lit (.bool true)], args := [d1, d2, d3, d4] }
  | _ => none }
def checkToldRow : OpenClaim := { program := "ytkajfadhlgmcjaa", sum := "0d9817abd03f465a0e5a30ddfd129f305cfb33a93f4d210bd1177511682e5e0e", func := "curtilage/curtilagelaw03.CheckTold", spec := "checkTold", unfollowed := true, recurses := true, apart := false }
def CheckToldSaid : Prop := checkToldRow.holds Try.pinned (OpenSpec.ofChange checkToldSpec)

/-- ITS FALSE NEIGHBOUR: 'it returns false'. Refute it at one input. -/
def checkToldWrong : ChangeSpec := { name := "checkTold", fn := fun _ => fun
  | [d1, d2, d3, d4] => { results := [.lit (.bool false)], args := [d1, d2, d3, d4] }
  | _ => none }
def CheckToldWrongFalsely : Prop := checkToldRow.holds Try.pinned (OpenSpec.ofChange checkToldWrong)

/-- 'curtilagelaw03.CheckBack': WHATEVER THE INPUT: true; the input reads as it did. -/
def checkBackSpec : ChangeSpec := { name := "checkBack", fn := fun _ => fun
  | [d1, d2, d3, d4, d5, d6, d7] => { results := [.lit (.bool true)], args := [d1, d2, d3, d4, d5, d6, d7] }
  | _ => none }
def checkBackRow : OpenClaim := { program := "ytkajfadhlgmcjaa", sum := "0d9817abd03f465a0e5a30ddfd129f305cfb33a93f4d210bd1177511682e5e0e", func := "curtilage/curtilagelaw03.CheckBack", spec := "checkBack", unfollowed := true, recurses := true, apart := false }
def CheckBackSaid : Prop := checkBackRow.holds Try.pinned (OpenSpec.ofChange checkBackSpec)

/-- ITS FALSE NEIGHBOUR: 'it returns false'. Refute it at one input. -/
def checkBackWrong : ChangeSpec := { name := "checkBack", fn := fun _ => fun
  | [d1, d2, d3, d4, d5, d6, d7] => { results := [.lit (.bool false)], args := [d1, d2, d3, d4, d5, d6, d7] }
  | _ => none }
def CheckBackWrongFalsely : Prop := checkBackRow.holds Try.pinned (OpenSpec.ofChange checkBackWrong)

/-- 'curtilagelaw03.CheckTells': WHATEVER THE INPUT: true; the input reads as it did. -/
def checkTellsSpec : ChangeSpec := { name := "checkTells", fn := fun _ => fun
  | [d1, d2, d3, d4, d5, d6] => { results := [.lit (.bool true)], args := [d1, d2, d3, d4, d5, d6] }
  | _ => none }
def checkTellsRow : OpenClaim := { program := "ytkajfadhlgmcjaa", sum := "0d9817abd03f465a0e5a30ddfd129f305cfb33a93f4d210bd1177511682e5e0e", func := "curtilage/curtilagelaw03.CheckTells", spec := "checkTells", unfollowed := true, recurses := true, apart := false }
def CheckTellsSaid : Prop := checkTellsRow.holds Try.pinned (OpenSpec.ofChange checkTellsSpec)

/-- ITS FALSE NEIGHBOUR: 'it returns false'. Refute it at one input. -/
def checkTellsWrong : ChangeSpec := { name := "checkTells", fn := fun _ => fun
  | [d1, d2, d3, d4, d5, d6] => { results := [.lit (.bool false)], args := [d1, d2, d3, d4, d5, d6] }
  | _ => none }
def CheckTellsWrongFalsely : Prop := checkTellsRow.holds Try.pinned (OpenSpec.ofChange checkTellsWrong)

/-- 'curtilagelaw02.LabelSets': WHATEVER THE INPUT: true; the input reads as it did. -/
def labelSetsSpec : ChangeSpec := { name := "labelSets", fn := fun _ => fun
  | [d1, d2, d3, d4] => { results := [.lit (.bool true)], args := [d1, d2, d3, d4] }
  | _ => none }
def labelSetsRow : OpenClaim := { program := "ytkajfadhlgmcjaa", sum := "0d9817abd03f465a0e5a30ddfd129f305cfb33a93f4d210bd1177511682e5e0e", func := "curtilage/curtilagelaw02.LabelSets", spec := "labelSets", inPlace := ["slices.overlaps[curtilage/api.Pair]"], unfollowed := true, recurses := true, apart := false }
def LabelSetsSaid : Prop := labelSetsRow.holds Try.pinned (OpenSpec.ofChange labelSetsSpec)

/-- ITS FALSE NEIGHBOUR: 'it returns false'. Refute it at one input. -/
def labelSetsWrong : ChangeSpec := { name := "labelSets", fn := fun _ => fun
  | [d1, d2, d3, d4] => { results := [.lit (.bool false)], args := [d1, d2, d3, d4] }
  | _ => none }
def LabelSetsWrongFalsely : Prop := labelSetsRow.holds Try.pinned (OpenSpec.ofChange labelSetsWrong)

/- THE SECOND FORM. 'bulk': how many values and letters a reading holds, each counted each time it is reached (what is shared counts as often as it is met; a slice's spare places count too). A statement '..UptoSaid' is the law's where the arguments, and the package variables that the reading takes, are together of bulk at most 1048576: NARROWER than '..Said'. Prove '..Said' where nothing that the law and all that it calls make is longer than what came in: it says more and counts as full. Else prove '..UptoSaid'. A law counts once. -/
mutual
def uptoBulk {H : Type} : DataW H → Nat
  | .lit (.string bytes) => bytes.length + 1
  | .lit _ => 1
  | .nil => 1
  | .ptr d => uptoBulk d + 1
  | .slice elems spare => uptoBulkAll elems + uptoBulkAll spare + 1
  | .agg parts => uptoBulkAll parts + 1
  | .iface _ d => uptoBulk d + 1
  | .map entries => uptoBulkEntries entries + 1
  | .held _ => 1
def uptoBulkAll {H : Type} : List (DataW H) → Nat
  | [] => 0
  | d :: r => uptoBulk d + uptoBulkAll r
def uptoBulkEntries {H : Type} : List (Lit × DataW H) → Nat
  | [] => 0
  | x :: r => uptoBulkEntry x + uptoBulkEntries r
def uptoBulkEntry {H : Type} : Lit × DataW H → Nat
  | (.string bytes, d) => bytes.length + uptoBulk d + 1
  | (_, d) => uptoBulk d + 1
 end
def uptoSmall : (H : Type) → List (DataW H) → Bool := fun _ ds => decide (uptoBulkAll ds ≤ 1048576)
def OpenSpec.upto (s : _root_.Go.ChangeSpec) : _root_.Go.OpenSpec := { _root_.Go.OpenSpec.ofChange s with cond := some uptoSmall }

/-- 'curtilagelaw02.LabelOrder', WHERE WHAT IT READS IS OF BULK AT MOST 1048576: true; the input reads as it did. -/
def labelOrderUptoRow : OpenClaim := { program := "ytkajfadhlgmcjaa", sum := "0d9817abd03f465a0e5a30ddfd129f305cfb33a93f4d210bd1177511682e5e0e", func := "curtilage/curtilagelaw02.LabelOrder", spec := "labelOrder", unfollowed := true, recurses := true, apart := false, narrowed := true }
def LabelOrderUptoSaid : Prop := labelOrderUptoRow.holds Try.pinned (OpenSpec.upto labelOrderSpec)

/-- 'curtilagelaw02.LabelSpreads', WHERE WHAT IT READS IS OF BULK AT MOST 1048576: true; the input reads as it did. -/
def labelSpreadsUptoRow : OpenClaim := { program := "ytkajfadhlgmcjaa", sum := "0d9817abd03f465a0e5a30ddfd129f305cfb33a93f4d210bd1177511682e5e0e", func := "curtilage/curtilagelaw02.LabelSpreads", spec := "labelSpreads", unfollowed := true, recurses := true, apart := false, narrowed := true }
def LabelSpreadsUptoSaid : Prop := labelSpreadsUptoRow.holds Try.pinned (OpenSpec.upto labelSpreadsSpec)

/-- 'curtilagelaw02.LabelPoints', WHERE WHAT IT READS IS OF BULK AT MOST 1048576: true; the input reads as it did. -/
def labelPointsUptoRow : OpenClaim := { program := "ytkajfadhlgmcjaa", sum := "0d9817abd03f465a0e5a30ddfd129f305cfb33a93f4d210bd1177511682e5e0e", func := "curtilage/curtilagelaw02.LabelPoints", spec := "labelPoints", unfollowed := true, recurses := true, apart := false, narrowed := true }
def LabelPointsUptoSaid : Prop := labelPointsUptoRow.holds Try.pinned (OpenSpec.upto labelPointsSpec)

/-- 'curtilagelaw02.LabelOwns', WHERE WHAT IT READS IS OF BULK AT MOST 1048576: true; the input reads as it did. -/
def labelOwnsUptoRow : OpenClaim := { program := "ytkajfadhlgmcjaa", sum := "0d9817abd03f465a0e5a30ddfd129f305cfb33a93f4d210bd1177511682e5e0e", func := "curtilage/curtilagelaw02.LabelOwns", spec := "labelOwns", unfollowed := true, recurses := true, apart := false, narrowed := true }
def LabelOwnsUptoSaid : Prop := labelOwnsUptoRow.holds Try.pinned (OpenSpec.upto labelOwnsSpec)

/-- 'curtilagelaw03.CheckAbove', WHERE WHAT IT READS IS OF BULK AT MOST 1048576: true; the input reads as it did. -/
def checkAboveUptoRow : OpenClaim := { program := "ytkajfadhlgmcjaa", sum := "0d9817abd03f465a0e5a30ddfd129f305cfb33a93f4d210bd1177511682e5e0e", func := "curtilage/curtilagelaw03.CheckAbove", spec := "checkAbove", unfollowed := true, recurses := true, apart := false, narrowed := true }
def CheckAboveUptoSaid : Prop := checkAboveUptoRow.holds Try.pinned (OpenSpec.upto checkAboveSpec)

/-- 'curtilagelaw03.CheckSame', WHERE WHAT IT READS IS OF BULK AT MOST 1048576: true; the input reads as it did. -/
def checkSameUptoRow : OpenClaim := { program := "ytkajfadhlgmcjaa", sum := "0d9817abd03f465a0e5a30ddfd129f305cfb33a93f4d210bd1177511682e5e0e", func := "curtilage/curtilagelaw03.CheckSame", spec := "checkSame", unfollowed := true, recurses := true, apart := false, narrowed := true }
def CheckSameUptoSaid : Prop := checkSameUptoRow.holds Try.pinned (OpenSpec.upto checkSameSpec)

/-- 'curtilagelaw03.CheckBoth', WHERE WHAT IT READS IS OF BULK AT MOST 1048576: true; the input reads as it did. -/
def checkBothUptoRow : OpenClaim := { program := "ytkajfadhlgmcjaa", sum := "0d9817abd03f465a0e5a30ddfd129f305cfb33a93f4d210bd1177511682e5e0e", func := "curtilage/curtilagelaw03.CheckBoth", spec := "checkBoth", unfollowed := true, recurses := true, apart := false, narrowed := true }
def CheckBothUptoSaid : Prop := checkBothUptoRow.holds Try.pinned (OpenSpec.upto checkBothSpec)

/-- 'curtilagelaw03.CheckSteps', WHERE WHAT IT READS IS OF BULK AT MOST 1048576: true; the input reads as it did. -/
def checkStepsUptoRow : OpenClaim := { program := "ytkajfadhlgmcjaa", sum := "0d9817abd03f465a0e5a30ddfd129f305cfb33a93f4d210bd1177511682e5e0e", func := "curtilage/curtilagelaw03.CheckSteps", spec := "checkSteps", unfollowed := true, recurses := true, apart := false, narrowed := true }
def CheckStepsUptoSaid : Prop := checkStepsUptoRow.holds Try.pinned (OpenSpec.upto checkStepsSpec)

/-- 'curtilagelaw03.CheckTold', WHERE WHAT IT READS IS OF BULK AT MOST 1048576: true; the input reads as it did. -/
def checkToldUptoRow : OpenClaim := { program := "ytkajfadhlgmcjaa", sum := "0d9817abd03f465a0e5a30ddfd129f305cfb33a93f4d210bd1177511682e5e0e", func := "curtilage/curtilagelaw03.CheckTold", spec := "checkTold", unfollowed := true, recurses := true, apart := false, narrowed := true }
def CheckToldUptoSaid : Prop := checkToldUptoRow.holds Try.pinned (OpenSpec.upto checkToldSpec)

/-- 'curtilagelaw03.CheckBack', WHERE WHAT IT READS IS OF BULK AT MOST 1048576: true; the input reads as it did. -/
def checkBackUptoRow : OpenClaim := { program := "ytkajfadhlgmcjaa", sum := "0d9817abd03f465a0e5a30ddfd129f305cfb33a93f4d210bd1177511682e5e0e", func := "curtilage/curtilagelaw03.CheckBack", spec := "checkBack", unfollowed := true, recurses := true, apart := false, narrowed := true }
def CheckBackUptoSaid : Prop := checkBackUptoRow.holds Try.pinned (OpenSpec.upto checkBackSpec)

/-- 'curtilagelaw03.CheckTells', WHERE WHAT IT READS IS OF BULK AT MOST 1048576: true; the input reads as it did. -/
def checkTellsUptoRow : OpenClaim := { program := "ytkajfadhlgmcjaa", sum := "0d9817abd03f465a0e5a30ddfd129f305cfb33a93f4d210bd1177511682e5e0e", func := "curtilage/curtilagelaw03.CheckTells", spec := "checkTells", unfollowed := true, recurses := true, apart := false, narrowed := true }
def CheckTellsUptoSaid : Prop := checkTellsUptoRow.holds Try.pinned (OpenSpec.upto checkTellsSpec)

/-- 'curtilagelaw02.LabelSets', WHERE WHAT IT READS IS OF BULK AT MOST 1048576: true; the input reads as it did. -/
def labelSetsUptoRow : OpenClaim := { program := "ytkajfadhlgmcjaa", sum := "0d9817abd03f465a0e5a30ddfd129f305cfb33a93f4d210bd1177511682e5e0e", func := "curtilage/curtilagelaw02.LabelSets", spec := "labelSets", inPlace := ["slices.overlaps[curtilage/api.Pair]"], unfollowed := true, recurses := true, apart := false, narrowed := true }
def LabelSetsUptoSaid : Prop := labelSetsUptoRow.holds Try.pinned (OpenSpec.upto labelSetsSpec)

end Rows
end Go.Proofs.Ytkajfadhlgmcjaa
