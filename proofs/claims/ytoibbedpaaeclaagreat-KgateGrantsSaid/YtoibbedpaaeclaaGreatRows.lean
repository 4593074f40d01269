/-
  No cell of these rows narrows 'for every input' (looked for: loops, veiled, ifaces, maps, wideKeys, modest, calm, conditions, laid).
  DERIVED. THE GIVEN ROWS OF THIS SEAT. 10 by the template 'for every input the law returns true; each argument reads behind the call as it read before'; 0 by the template 'total and deterministic' (their statements: YtoibbedpaaeclaaGreatTotals.lean).
  GIVEN WITH THE SEED: the statements are not yours to turn. If you find one false, say at which input.
  Laid BY PROGRAM, IN A SANDBOX (cutbox-rows.mjs): the forced cells as the released guide's own fill.sh prints them over the translation a08cbf5656f2cb9e… (all of the seat's roots in one cut). By AI agents, Wed Nov 11 2026. No macro, syntax, notation, axiom, sorry.
-/
import Derived.Test.YtoibbedpaaeclaaGreatChecked
import GoSem.Claim
import GoSem.ClaimJoined
import GoSem.ClaimMapViews
import Derived.JoinedTies
import Derived.KernelRfl
namespace Go.Proofs.YtoibbedpaaeclaaGreat
/- THE CELL 'sum', in the pinned program and in every row, IS THE sha256 OF THE DUMP (.gsa) THAT YtoibbedpaaeclaaGreatProg.lean LOADS. Nothing in Lean hashes anything: it is a label: what it is worth is what the hold of that sum in a sandbox is worth. -/
noncomputable def Tryz.pinned : Pinned := { name := "ytoibbedpaaeclaagreat", sum := "a08cbf5656f2cb9e220a8a801fa87d907e9685da81ccec8bbbd28c29e5372c02", checked := Tryz.checked }
namespace Rows
def none {H : Type} : Left H := { results := [], args := [] }

/-- 'curtilagelaw38.GenBuilds': WHATEVER THE INPUT: true; the input reads as it did. -/
def genBuildsSpec : ChangeSpec := { name := "genBuilds", fn := fun _ => fun
  | [d1, d2, d3] => { results := [.lit (.bool true)], args := [d1, d2, d3] }
  | _ => none }
def genBuildsRow : OpenClaim := { program := "ytoibbedpaaeclaagreat", sum := "a08cbf5656f2cb9e220a8a801fa87d907e9685da81ccec8bbbd28c29e5372c02", func := "curtilage/curtilagelaw38.GenBuilds", spec := "genBuilds", inPlace := ["internal/bytealg.IndexByteString"], unfollowed := true, recurses := true, apart := false }
def GenBuildsSaid : Prop := genBuildsRow.holds Tryz.pinned (OpenSpec.ofChange genBuildsSpec)

/-- ITS FALSE NEIGHBOUR: 'it returns false'. Refute it at one input. -/
def genBuildsWrong : ChangeSpec := { name := "genBuilds", fn := fun _ => fun
  | [d1, d2, d3] => { results := [.lit (.bool false)], args := [d1, d2, d3] }
  | _ => none }
def GenBuildsWrongFalsely : Prop := genBuildsRow.holds Tryz.pinned (OpenSpec.ofChange genBuildsWrong)

/-- 'curtilagelaw23.KgateDoes': WHATEVER THE INPUT: true; the input reads as it did. -/
def kgateDoesSpec : ChangeSpec := { name := "kgateDoes", fn := fun _ => fun
  | [d1, d2, d3, d4] => { results := [.lit (.bool true)], args := [d1, d2, d3, d4] }
  | _ => none }
def kgateDoesRow : OpenClaim := { program := "ytoibbedpaaeclaagreat", sum := "a08cbf5656f2cb9e220a8a801fa87d907e9685da81ccec8bbbd28c29e5372c02", func := "curtilage/curtilagelaw23.KgateDoes", spec := "kgateDoes", inPlace := ["slices.overlaps[curtilage/api.Object]"], unfollowed := true, recurses := true, apart := false }
def KgateDoesSaid : Prop := kgateDoesRow.holds Tryz.pinned (OpenSpec.ofChange kgateDoesSpec)

/-- ITS FALSE NEIGHBOUR: 'it returns false'. Refute it at one input. -/
def kgateDoesWrong : ChangeSpec := { name := "kgateDoes", fn := fun _ => fun
  | [d1, d2, d3, d4] => { results := [.lit (.bool false)], args := [d1, d2, d3, d4] }
  | _ => none }
def KgateDoesWrongFalsely : Prop := kgateDoesRow.holds Tryz.pinned (OpenSpec.ofChange kgateDoesWrong)

/-- 'curtilagelaw23.KgateGrants': WHATEVER THE INPUT: true; the input reads as it did. -/
def kgateGrantsSpec : ChangeSpec := { name := "kgateGrants", fn := fun _ => fun
  | [d1, d2, d3] => { results := [.lit (.bool true)], args := [d1, d2, d3] }
  | _ => none }
def kgateGrantsRow : OpenClaim := { program := "ytoibbedpaaeclaagreat", sum := "a08cbf5656f2cb9e220a8a801fa87d907e9685da81ccec8bbbd28c29e5372c02", func := "curtilage/curtilagelaw23.KgateGrants", spec := "kgateGrants", inPlace := ["slices.overlaps[curtilage/api.Object]"], unfollowed := true, recurses := true, apart := false }
def KgateGrantsSaid : Prop := kgateGrantsRow.holds Tryz.pinned (OpenSpec.ofChange kgateGrantsSpec)

/-- ITS FALSE NEIGHBOUR: 'it returns false'. Refute it at one input. -/
def kgateGrantsWrong : ChangeSpec := { name := "kgateGrants", fn := fun _ => fun
  | [d1, d2, d3] => { results := [.lit (.bool false)], args := [d1, d2, d3] }
  | _ => none }
def KgateGrantsWrongFalsely : Prop := kgateGrantsRow.holds Tryz.pinned (OpenSpec.ofChange kgateGrantsWrong)

/-- 'curtilagelaw19.CpuSteps': WHATEVER THE INPUT: true; the input reads as it did. -/
def cpuStepsSpec : ChangeSpec := { name := "cpuSteps", fn := fun _ => fun
  | [d1, d2] => { results := [.lit (.bool true)], args := [d1, d2] }
  | _ => none }
def cpuStepsRow : OpenClaim := { program := "ytoibbedpaaeclaagreat", sum := "a08cbf5656f2cb9e220a8a801fa87d907e9685da81ccec8bbbd28c29e5372c02", func := "curtilage/curtilagelaw19.CpuSteps", spec := "cpuSteps", inPlace := ["internal/bytealg.IndexByteString", "slices.overlaps[curtilage/api.Object]"], unfollowed := true, recurses := true, apart := false }
def CpuStepsSaid : Prop := cpuStepsRow.holds Tryz.pinned (OpenSpec.ofChange cpuStepsSpec)

/-- ITS FALSE NEIGHBOUR: 'it returns false'. Refute it at one input. -/
def cpuStepsWrong : ChangeSpec := { name := "cpuSteps", fn := fun _ => fun
  | [d1, d2] => { results := [.lit (.bool false)], args := [d1, d2] }
  | _ => none }
def CpuStepsWrongFalsely : Prop := cpuStepsRow.holds Tryz.pinned (OpenSpec.ofChange cpuStepsWrong)

/-- 'curtilagelaw19.CpuRuns': WHATEVER THE INPUT: true; the input reads as it did. -/
def cpuRunsSpec : ChangeSpec := { name := "cpuRuns", fn := fun _ => fun
  | [d1, d2] => { results := [.lit (.bool true)], args := [d1, d2] }
  | _ => none }
def cpuRunsRow : OpenClaim := { program := "ytoibbedpaaeclaagreat", sum := "a08cbf5656f2cb9e220a8a801fa87d907e9685da81ccec8bbbd28c29e5372c02", func := "curtilage/curtilagelaw19.CpuRuns", spec := "cpuRuns", inPlace := ["internal/bytealg.IndexByteString", "slices.overlaps[curtilage/api.Object]"], unfollowed := true, recurses := true, apart := false }
def CpuRunsSaid : Prop := cpuRunsRow.holds Tryz.pinned (OpenSpec.ofChange cpuRunsSpec)

/-- ITS FALSE NEIGHBOUR: 'it returns false'. Refute it at one input. -/
def cpuRunsWrong : ChangeSpec := { name := "cpuRuns", fn := fun _ => fun
  | [d1, d2] => { results := [.lit (.bool false)], args := [d1, d2] }
  | _ => none }
def CpuRunsWrongFalsely : Prop := cpuRunsRow.holds Tryz.pinned (OpenSpec.ofChange cpuRunsWrong)

/-- 'curtilagelaw19.CpuAlone': WHATEVER THE INPUT: true; the input reads as it did. -/
def cpuAloneSpec : ChangeSpec := { name := "cpuAlone", fn := fun _ => fun
  | [d1, d2] => { results := [.lit (.bool true)], args := [d1, d2] }
  | _ => none }
def cpuAloneRow : OpenClaim := { program := "ytoibbedpaaeclaagreat", sum := "a08cbf5656f2cb9e220a8a801fa87d907e9685da81ccec8bbbd28c29e5372c02", func := "curtilage/curtilagelaw19.CpuAlone", spec := "cpuAlone", inPlace := ["internal/bytealg.IndexByteString", "slices.overlaps[curtilage/api.Object]"], unfollowed := true, recurses := true, apart := false }
def CpuAloneSaid : Prop := cpuAloneRow.holds Tryz.pinned (OpenSpec.ofChange cpuAloneSpec)

/-- ITS FALSE NEIGHBOUR: 'it returns false'. Refute it at one input. -/
def cpuAloneWrong : ChangeSpec := { name := "cpuAlone", fn := fun _ => fun
  | [d1, d2] => { results := [.lit (.bool false)], args := [d1, d2] }
  | _ => none }
def CpuAloneWrongFalsely : Prop := cpuAloneRow.holds Tryz.pinned (OpenSpec.ofChange cpuAloneWrong)

/-- 'curtilagelaw22.KthrDoes': WHATEVER THE INPUT: true; the input reads as it did. -/
def kthrDoesSpec : ChangeSpec := { name := "kthrDoes", fn := fun _ => fun
  | [d1, d2, d3, d4] => { results := [.lit (.bool true)], args := [d1, d2, d3, d4] }
  | _ => none }
def kthrDoesRow : OpenClaim := { program := "ytoibbedpaaeclaagreat", sum := "a08cbf5656f2cb9e220a8a801fa87d907e9685da81ccec8bbbd28c29e5372c02", func := "curtilage/curtilagelaw22.KthrDoes", spec := "kthrDoes", inPlace := ["slices.overlaps[curtilage/api.Object]", "slices.overlaps[curtilage/api.Pair]"], unfollowed := true, recurses := true, apart := false }
def KthrDoesSaid : Prop := kthrDoesRow.holds Tryz.pinned (OpenSpec.ofChange kthrDoesSpec)

/-- ITS FALSE NEIGHBOUR: 'it returns false'. Refute it at one input. -/
def kthrDoesWrong : ChangeSpec := { name := "kthrDoes", fn := fun _ => fun
  | [d1, d2, d3, d4] => { results := [.lit (.bool false)], args := [d1, d2, d3, d4] }
  | _ => none }
def KthrDoesWrongFalsely : Prop := kthrDoesRow.holds Tryz.pinned (OpenSpec.ofChange kthrDoesWrong)

/-- 'curtilagelaw22.KthrUp': WHATEVER THE INPUT: true; the input reads as it did. -/
def kthrUpSpec : ChangeSpec := { name := "kthrUp", fn := fun _ => fun
  | [d1, d2, d3, d4] => { results := [.lit (.bool true)], args := [d1, d2, d3, d4] }
  | _ => none }
def kthrUpRow : OpenClaim := { program := "ytoibbedpaaeclaagreat", sum := "a08cbf5656f2cb9e220a8a801fa87d907e9685da81ccec8bbbd28c29e5372c02", func := "curtilage/curtilagelaw22.KthrUp", spec := "kthrUp", inPlace := ["slices.overlaps[curtilage/api.Object]", "slices.overlaps[curtilage/api.Pair]"], unfollowed := true, recurses := true, apart := false }
def KthrUpSaid : Prop := kthrUpRow.holds Tryz.pinned (OpenSpec.ofChange kthrUpSpec)

/-- ITS FALSE NEIGHBOUR: 'it returns false'. Refute it at one input. -/
def kthrUpWrong : ChangeSpec := { name := "kthrUp", fn := fun _ => fun
  | [d1, d2, d3, d4] => { results := [.lit (.bool false)], args := [d1, d2, d3, d4] }
  | _ => none }
def KthrUpWrongFalsely : Prop := kthrUpRow.holds Tryz.pinned (OpenSpec.ofChange kthrUpWrong)

/-- 'curtilagelaw22.KthrAlone': WHATEVER THE INPUT: true; the input reads as it did. -/
def kthrAloneSpec : ChangeSpec := { name := "kthrAlone", fn := fun _ => fun
  | [d1, d2, d3, d4] => { results := [.lit (.bool true)], args := [d1, d2, d3, d4] }
  | _ => none }
def kthrAloneRow : OpenClaim := { program := "ytoibbedpaaeclaagreat", sum := "a08cbf5656f2cb9e220a8a801fa87d907e9685da81ccec8bbbd28c29e5372c02", func := "curtilage/curtilagelaw22.KthrAlone", spec := "kthrAlone", inPlace := ["slices.overlaps[curtilage/api.Object]", "slices.overlaps[curtilage/api.Pair]"], unfollowed := true, recurses := true, apart := false }
def KthrAloneSaid : Prop := kthrAloneRow.holds Tryz.pinned (OpenSpec.ofChange kthrAloneSpec)

/-- ITS FALSE NEIGHBOUR: 'it returns false'. Refute it at one input. -/
def kthrAloneWrong : ChangeSpec := { name := "kthrAlone", fn := fun _ => fun
  | [d1, d2, d3, d4] => { results := [.lit (.bool false)], args := [d1, d2, d3, d4] }
  | _ => none }
def KthrAloneWrongFalsely : Prop := kthrAloneRow.holds Tryz.pinned (OpenSpec.ofChange kthrAloneWrong)

/-- 'curtilagelaw22.KthrLabs': WHATEVER THE INPUT: true; the input reads as it did. -/
def kthrLabsSpec : ChangeSpec := { name := "kthrLabs", fn := fun _ => fun
  | [d1, d2, d3, d4, d5, d6] => { results := [.lit (.bool true)], args := [d1, d2, d3, d4, d5, d6] }
  | _ => none }
def kthrLabsRow : OpenClaim := { program := "ytoibbedpaaeclaagreat", sum := "a08cbf5656f2cb9e220a8a801fa87d907e9685da81ccec8bbbd28c29e5372c02", func := "curtilage/curtilagelaw22.KthrLabs", spec := "kthrLabs", inPlace := ["slices.overlaps[curtilage/api.Object]", "slices.overlaps[curtilage/api.Pair]"], unfollowed := true, recurses := true, apart := false }
def KthrLabsSaid : Prop := kthrLabsRow.holds Tryz.pinned (OpenSpec.ofChange kthrLabsSpec)

/-- ITS FALSE NEIGHBOUR: 'it returns false'. Refute it at one input. -/
def kthrLabsWrong : ChangeSpec := { name := "kthrLabs", fn := fun _ => fun
  | [d1, d2, d3, d4, d5, d6] => { results := [.lit (.bool false)], args := [d1, d2, d3, d4, d5, d6] }
  | _ => none }
def KthrLabsWrongFalsely : Prop := kthrLabsRow.holds Tryz.pinned (OpenSpec.ofChange kthrLabsWrong)

/- THE SECOND FORM. 'bulk': how many values and letters a reading holds, each counted each time it is reached (what is shared counts as often as it is met; a slice's spare places count too). A statement '..UptoSaid' is the law's where the arguments, and the package variables that the reading takes, are together of bulk at most 1048576: NARROWER than '..Said'. Prove '..Said' where nothing that the law and all that it calls make is longer than what came in: it says more and counts as full. Else prove '..UptoSaid'. A law counts once. -/
mutual
def uptoBulk {H : Type} : DataW H → Nat
  | .lit (.string bytes) => bytes.length + 1
  | .lit _ => 1
  | .nil => 1
  | .ptr d => uptoBulk d + 1
  | .slice elems spare => uptoBulkAll elems + uptoBulkAll spare + 1
  | .agg parts => uptoBulkAll parts + 1
  | .iface _ d => uptoBulk d + 1
  | .map entries => uptoBulkEntries entries + 1
  | .held _ => 1
def uptoBulkAll {H : Type} : List (DataW H) → Nat
  | [] => 0
  | d :: r => uptoBulk d + uptoBulkAll r
def uptoBulkEntries {H : Type} : List (Lit × DataW H) → Nat
  | [] => 0
  | x :: r => uptoBulkEntry x + uptoBulkEntries r
def uptoBulkEntry {H : Type} : Lit × DataW H → Nat
  | (.string bytes, d) => bytes.length + uptoBulk d + 1
  | (_, d) => uptoBulk d + 1
 end
def uptoSmall : (H : Type) → List (DataW H) → Bool := fun _ ds => decide (uptoBulkAll ds ≤ 1048576)
def OpenSpec.upto (s : _root_.Go.ChangeSpec) : _root_.Go.OpenSpec := { _root_.Go.OpenSpec.ofChange s with cond := some uptoSmall }

/-- 'curtilagelaw38.GenBuilds', WHERE WHAT IT READS IS OF BULK AT MOST 1048576: true; the input reads as it did. -/
def genBuildsUptoRow : OpenClaim := { program := "ytoibbedpaaeclaagreat", sum := "a08cbf5656f2cb9e220a8a801fa87d907e9685da81ccec8bbbd28c29e5372c02", func := "curtilage/curtilagelaw38.GenBuilds", spec := "genBuilds", inPlace := ["internal/bytealg.IndexByteString"], unfollowed := true, recurses := true, apart := false, narrowed := true }
def GenBuildsUptoSaid : Prop := genBuildsUptoRow.holds Tryz.pinned (OpenSpec.upto genBuildsSpec)

/-- 'curtilagelaw23.KgateDoes', WHERE WHAT IT READS IS OF BULK AT MOST 1048576: true; the input reads as it did. -/
def kgateDoesUptoRow : OpenClaim := { program := "ytoibbedpaaeclaagreat", sum := "a08cbf5656f2cb9e220a8a801fa87d907e9685da81ccec8bbbd28c29e5372c02", func := "curtilage/curtilagelaw23.KgateDoes", spec := "kgateDoes", inPlace := ["slices.overlaps[curtilage/api.Object]"], unfollowed := true, recurses := true, apart := false, narrowed := true }
def KgateDoesUptoSaid : Prop := kgateDoesUptoRow.holds Tryz.pinned (OpenSpec.upto kgateDoesSpec)

/-- 'curtilagelaw23.KgateGrants', WHERE WHAT IT READS IS OF BULK AT MOST 1048576: true; the input reads as it did. -/
def kgateGrantsUptoRow : OpenClaim := { program := "ytoibbedpaaeclaagreat", sum := "a08cbf5656f2cb9e220a8a801fa87d907e9685da81ccec8bbbd28c29e5372c02", func := "curtilage/curtilagelaw23.KgateGrants", spec := "kgateGrants", inPlace := ["slices.overlaps[curtilage/api.Object]"], unfollowed := true, recurses := true, apart := false, narrowed := true }
def KgateGrantsUptoSaid : Prop := kgateGrantsUptoRow.holds Tryz.pinned (OpenSpec.upto kgateGrantsSpec)

/-- 'curtilagelaw19.CpuSteps', WHERE WHAT IT READS IS OF BULK AT MOST 1048576: true; the input reads as it did. -/
def cpuStepsUptoRow : OpenClaim := { program := "ytoibbedpaaeclaagreat", sum := "a08cbf5656f2cb9e220a8a801fa87d907e9685da81ccec8bbbd28c29e5372c02", func := "curtilage/curtilagelaw19.CpuSteps", spec := "cpuSteps", inPlace := ["internal/bytealg.IndexByteString", "slices.overlaps[curtilage/api.Object]"], unfollowed := true, recurses := true, apart := false, narrowed := true }
def CpuStepsUptoSaid : Prop := cpuStepsUptoRow.holds Tryz.pinned (OpenSpec.upto cpuStepsSpec)

/-- 'curtilagelaw19.CpuRuns', WHERE WHAT IT READS IS OF BULK AT MOST 1048576: true; the input reads as it did. -/
def cpuRunsUptoRow : OpenClaim := { program := "ytoibbedpaaeclaagreat", sum := "a08cbf5656f2cb9e220a8a801fa87d907e9685da81ccec8bbbd28c29e5372c02", func := "curtilage/curtilagelaw19.CpuRuns", spec := "cpuRuns", inPlace := ["internal/bytealg.IndexByteString", "slices.overlaps[curtilage/api.Object]"], unfollowed := true, recurses := true, apart := false, narrowed := true }
def CpuRunsUptoSaid : Prop := cpuRunsUptoRow.holds Tryz.pinned (OpenSpec.upto cpuRunsSpec)

/-- 'curtilagelaw19.CpuAlone', WHERE WHAT IT READS IS OF BULK AT MOST 1048576: true; the input reads as it did. -/
def cpuAloneUptoRow : OpenClaim := { program := "ytoibbedpaaeclaagreat", sum := "a08cbf5656f2cb9e220a8a801fa87d907e9685da81ccec8bbbd28c29e5372c02", func := "curtilage/curtilagelaw19.CpuAlone", spec := "cpuAlone", inPlace := ["internal/bytealg.IndexByteString", "slices.overlaps[curtilage/api.Object]"], unfollowed := true, recurses := true, apart := false, narrowed := true }
def CpuAloneUptoSaid : Prop := cpuAloneUptoRow.holds Tryz.pinned (OpenSpec.upto cpuAloneSpec)

/-- 'curtilagelaw22.KthrDoes', WHERE WHAT IT READS IS OF BULK AT MOST 1048576: true; the input reads as it did. -/
def kthrDoesUptoRow : OpenClaim := { program := "ytoibbedpaaeclaagreat", sum := "a08cbf5656f2cb9e220a8a801fa87d907e9685da81ccec8bbbd28c29e5372c02", func := "curtilage/curtilagelaw22.KthrDoes", spec := "kthrDoes", inPlace := ["slices.overlaps[curtilage/api.Object]", "slices.overlaps[curtilage/api.Pair]"], unfollowed := true, recurses := true, apart := false, narrowed := true }
def KthrDoesUptoSaid : Prop := kthrDoesUptoRow.holds Tryz.pinned (OpenSpec.upto kthrDoesSpec)

/-- 'curtilagelaw22.KthrUp', WHERE WHAT IT READS IS OF BULK AT MOST 1048576: true; the input reads as it did. -/
def kthrUpUptoRow : OpenClaim := { program := "ytoibbedpaaeclaagreat", sum := "a08cbf5656f2cb9e220a8a801fa87d907e9685da81ccec8bbbd28c29e5372c02", func := "curtilage/curtilagelaw22.KthrUp", spec := "kthrUp", inPlace := ["slices.overlaps[curtilage/api.Object]", "slices.overlaps[curtilage/api.Pair]"], unfollowed := true, recurses := true, apart := false, narrowed := true }
def KthrUpUptoSaid : Prop := kthrUpUptoRow.holds Tryz.pinned (OpenSpec.upto kthrUpSpec)

/-- 'curtilagelaw22.KthrAlone', WHERE WHAT IT READS IS OF BULK AT MOST 1048576: true; the input reads as it did. -/
def kthrAloneUptoRow : OpenClaim := { program := "ytoibbedpaaeclaagreat", sum := "a08cbf5656f2cb9e220a8a801fa87d907e9685da81ccec8bbbd28c29e5372c02", func := "curtilage/curtilagelaw22.KthrAlone", spec := "kthrAlone", inPlace := ["slices.overlaps[curtilage/api.Object]", "slices.overlaps[curtilage/api.Pair]"], unfollowed := true, recurses := true, apart := false, narrowed := true }
def KthrAloneUptoSaid : Prop := kthrAloneUptoRow.holds Tryz.pinned (OpenSpec.upto kthrAloneSpec)

/-- 'curtilagelaw22.KthrLabs', WHERE WHAT IT READS IS OF BULK AT MOST 1048576: true; the input reads as it did. -/
def kthrLabsUptoRow : OpenClaim := { program := "ytoibbedpaaeclaagreat", sum := "a08cbf5656f2cb9e220a8a801fa87d907e9685da81ccec8bbbd28c29e5372c02", func := "curtilage/curtilagelaw22.KthrLabs", spec := "kthrLabs", inPlace := ["slices.overlaps[curtilage/api.Object]", "slices.overlaps[curtilage/api.Pair]"], unfollowed := true, recurses := true, apart := false, narrowed := true }
def KthrLabsUptoSaid : Prop := kthrLabsUptoRow.holds Tryz.pinned (OpenSpec.upto kthrLabsSpec)

end Rows
end Go.Proofs.YtoibbedpaaeclaaGreat
