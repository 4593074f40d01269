/-
  No cell of these rows narrows 'for every input' (looked for: loops, veiled, ifaces, maps, wideKeys, modest, calm, conditions, laid).
  DERIVED. THE GIVEN ROWS OF THIS SEAT. 12 by the template 'for every input the law returns true; each argument reads behind the call as it read before'; 0 by the template 'total and deterministic' (their statements: YtnocdfajeanmdaaTotals.lean).
  GIVEN WITH THE SEED: the statements are not yours to turn. If you find one false, say at which input.
  Laid BY PROGRAM, IN A SANDBOX (cutbox-rows.mjs): the forced cells as the released guide's own fill.sh prints them over the translation d1196e08dccd1f05… (all of the seat's roots in one cut). By AI agents, Wed Nov 11 2026. No macro, syntax, notation, axiom, sorry.
-/
import Derived.Test.YtnocdfajeanmdaaChecked
import GoSem.Claim
import GoSem.ClaimJoined
import GoSem.ClaimMapViews
import Derived.JoinedTies
import Derived.KernelRfl
namespace Go.Proofs.Ytnocdfajeanmdaa
/- THE CELL 'sum', in the pinned program and in every row, IS THE sha256 OF THE DUMP (.gsa) THAT YtnocdfajeanmdaaProg.lean LOADS. Nothing in Lean hashes anything: it is a label: what it is worth is what the hold of that sum in a sandbox is worth. -/
noncomputable def Try.pinned : Pinned := { name := "ytnocdfajeanmdaa", sum := "d1196e08dccd1f05f04c64bd1ef94762c4e890b1a860891dfc922c714ad50cb4", checked := Try.checked }
namespace Rows
def none {H : Type} : Left H := { results := [], args := [] }

/-- 'curtilagelaw07.SerialRow': WHATEVER THE INPUT: true; the input reads as it did. -/
def serialRowSpec : ChangeSpec := { name := "serialRow", fn := fun _ => fun
  | [d1, d2] => { results := [.lit (.bool true)], args := [d1, d2] }
  | _ => none }
def serialRowRow : OpenClaim := { program := "ytnocdfajeanmdaa", sum := "d1196e08dccd1f05f04c64bd1ef94762c4e890b1a860891dfc922c714ad50cb4", func := "curtilage/curtilagelaw07.SerialRow", spec := "serialRow", unfollowed := true, recurses := true, apart := false }
def SerialRowSaid : Prop := serialRowRow.holds Try.pinned (OpenSpec.ofChange serialRowSpec)

/-- ITS FALSE NEIGHBOUR: 'it returns false'. Refute it at one input. -/
def serialRowWrong : ChangeSpec := { name := "serialRow", fn := fun _ => fun
  | [d1, d2] => { results := [.lit (.bool false)], args := [d1, d2] }
  | _ => none }
def SerialRowWrongFalsely : Prop := serialRowRow.holds Try.pinned (OpenSpec.ofChange serialRowWrong)

/-- 'curtilagelaw06.PermNames': WHATEVER THE INPUT: true; the input reads as it did. -/
def permNamesSpec : ChangeSpec := { name := "permNames", fn := fun _ => fun
  | [d1, d2] => { results := [.lit (.bool true)], args := [d1, d2] }
  | _ => none }
def permNamesRow : OpenClaim := { program := "ytnocdfajeanmdaa", sum := "d1196e08dccd1f05f04c64bd1ef94762c4e890b1a860891dfc922c714ad50cb4", func := "curtilage/curtilagelaw06.PermNames", spec := "permNames", unfollowed := true, recurses := true, apart := false }
def PermNamesSaid : Prop := permNamesRow.holds Try.pinned (OpenSpec.ofChange permNamesSpec)

/-- ITS FALSE NEIGHBOUR: 'it returns false'. Refute it at one input. -/
def permNamesWrong : ChangeSpec := { name := "permNames", fn := fun _ => fun
  | [d1, d2] => { results := [.lit (.bool false)], args := [d1, d2] }
  | _ => none }
def PermNamesWrongFalsely : Prop := permNamesRow.holds Try.pinned (OpenSpec.ofChange permNamesWrong)

/-- 'curtilagelaw06.PermBack': WHATEVER THE INPUT: true; the input reads as it did. -/
def permBackSpec : ChangeSpec := { name := "permBack", fn := fun _ => fun
  | [d1, d2, d3] => { results := [.lit (.bool true)], args := [d1, d2, d3] }
  | _ => none }
def permBackRow : OpenClaim := { program := "ytnocdfajeanmdaa", sum := "d1196e08dccd1f05f04c64bd1ef94762c4e890b1a860891dfc922c714ad50cb4", func := "curtilage/curtilagelaw06.PermBack", spec := "permBack", unfollowed := true, recurses := true, apart := false }
def PermBackSaid : Prop := permBackRow.holds Try.pinned (OpenSpec.ofChange permBackSpec)

/-- ITS FALSE NEIGHBOUR: 'it returns false'. Refute it at one input. -/
def permBackWrong : ChangeSpec := { name := "permBack", fn := fun _ => fun
  | [d1, d2, d3] => { results := [.lit (.bool false)], args := [d1, d2, d3] }
  | _ => none }
def PermBackWrongFalsely : Prop := permBackRow.holds Try.pinned (OpenSpec.ofChange permBackWrong)

/-- 'curtilagelaw06.PermMixes': WHATEVER THE INPUT: true; the input reads as it did. -/
def permMixesSpec : ChangeSpec := { name := "permMixes", fn := fun _ => fun
  | [d1, d2] => { results := [.lit (.bool true)], args := [d1, d2] }
  | _ => none }
def permMixesRow : OpenClaim := { program := "ytnocdfajeanmdaa", sum := "d1196e08dccd1f05f04c64bd1ef94762c4e890b1a860891dfc922c714ad50cb4", func := "curtilage/curtilagelaw06.PermMixes", spec := "permMixes", unfollowed := true, recurses := true, apart := false }
def PermMixesSaid : Prop := permMixesRow.holds Try.pinned (OpenSpec.ofChange permMixesSpec)

/-- ITS FALSE NEIGHBOUR: 'it returns false'. Refute it at one input. -/
def permMixesWrong : ChangeSpec := { name := "permMixes", fn := fun _ => fun
  | [d1, d2] => { results := [.lit (.bool false)], args := [d1, d2] }
  | _ => none }
def PermMixesWrongFalsely : Prop := permMixesRow.holds Try.pinned (OpenSpec.ofChange permMixesWrong)

/-- 'curtilagelaw06.PermBits': WHATEVER THE INPUT: true; the input reads as it did. -/
def permBitsSpec : ChangeSpec := { name := "permBits", fn := fun _ => fun
  | [d1, d2, d3, d4] => { results := [.lit (.bool true)], args := [d1, d2, d3, d4] }
  | _ => none }
def permBitsRow : OpenClaim := { program := "ytnocdfajeanmdaa", sum := "d1196e08dccd1f05f04c64bd1ef94762c4e890b1a860891dfc922c714ad50cb4", func := "curtilage/curtilagelaw06.PermBits", spec := "permBits", unfollowed := true, recurses := true, apart := false }
def PermBitsSaid : Prop := permBitsRow.holds Try.pinned (OpenSpec.ofChange permBitsSpec)

/-- ITS FALSE NEIGHBOUR: 'it returns false'. Refute it at one input. -/
def permBitsWrong : ChangeSpec := { name := "permBits", fn := fun _ => fun
  | [d1, d2, d3, d4] => { results := [.lit (.bool false)], args := [d1, d2, d3, d4] }
  | _ => none }
def PermBitsWrongFalsely : Prop := permBitsRow.holds Try.pinned (OpenSpec.ofChange permBitsWrong)

/-- 'curtilagelaw09.AluOrders': WHATEVER THE INPUT: true; the input reads as it did. -/
def aluOrdersSpec : ChangeSpec := { name := "aluOrders", fn := fun _ => fun
  | [d1, d2] => { results := [.lit (.bool true)], args := [d1, d2] }
  | _ => none }
def aluOrdersRow : OpenClaim := { program := "ytnocdfajeanmdaa", sum := "d1196e08dccd1f05f04c64bd1ef94762c4e890b1a860891dfc922c714ad50cb4", func := "curtilage/curtilagelaw09.AluOrders", spec := "aluOrders", apart := false }
def AluOrdersSaid : Prop := aluOrdersRow.holds Try.pinned (OpenSpec.ofChange aluOrdersSpec)

/-- ITS FALSE NEIGHBOUR: 'it returns false'. Refute it at one input. -/
def aluOrdersWrong : ChangeSpec := { name := "aluOrders", fn := fun _ => fun
  | [d1, d2] => { results := [.lit (.bool false)], args := [d1, d2] }
  | _ => none }
def AluOrdersWrongFalsely : Prop := aluOrdersRow.holds Try.pinned (OpenSpec.ofChange aluOrdersWrong)

/-- 'curtilagelaw09.AluSpreads': WHATEVER THE INPUT: true; the input reads as it did. -/
def aluSpreadsSpec : ChangeSpec := { name := "aluSpreads", fn := fun _ => fun
  | [d1, d2, d3] => { results := [.lit (.bool true)], args := [d1, d2, d3] }
  | _ => none }
def aluSpreadsRow : OpenClaim := { program := "ytnocdfajeanmdaa", sum := "d1196e08dccd1f05f04c64bd1ef94762c4e890b1a860891dfc922c714ad50cb4", func := "curtilage/curtilagelaw09.AluSpreads", spec := "aluSpreads", apart := false }
def AluSpreadsSaid : Prop := aluSpreadsRow.holds Try.pinned (OpenSpec.ofChange aluSpreadsSpec)

/-- ITS FALSE NEIGHBOUR: 'it returns false'. Refute it at one input. -/
def aluSpreadsWrong : ChangeSpec := { name := "aluSpreads", fn := fun _ => fun
  | [d1, d2, d3] => { results := [.lit (.bool false)], args := [d1, d2, d3] }
  | _ => none }
def AluSpreadsWrongFalsely : Prop := aluSpreadsRow.holds Try.pinned (OpenSpec.ofChange aluSpreadsWrong)

/-- 'curtilagelaw07.SerialParts': WHATEVER THE INPUT: true; the input reads as it did. -/
def serialPartsSpec : ChangeSpec := { name := "serialParts", fn := fun _ => fun
  | [d1, d2, d3] => { results := [.lit (.bool true)], args := [d1, d2, d3] }
  | _ => none }
def serialPartsRow : OpenClaim := { program := "ytnocdfajeanmdaa", sum := "d1196e08dccd1f05f04c64bd1ef94762c4e890b1a860891dfc922c714ad50cb4", func := "curtilage/curtilagelaw07.SerialParts", spec := "serialParts", unfollowed := true, recurses := true, apart := false }
def SerialPartsSaid : Prop := serialPartsRow.holds Try.pinned (OpenSpec.ofChange serialPartsSpec)

/-- ITS FALSE NEIGHBOUR: 'it returns false'. Refute it at one input. -/
def serialPartsWrong : ChangeSpec := { name := "serialParts", fn := fun _ => fun
  | [d1, d2, d3] => { results := [.lit (.bool false)], args := [d1, d2, d3] }
  | _ => none }
def SerialPartsWrongFalsely : Prop := serialPartsRow.holds Try.pinned (OpenSpec.ofChange serialPartsWrong)

/-- 'curtilagelaw09.AluDoes': WHATEVER THE INPUT: true; the input reads as it did. -/
def aluDoesSpec : ChangeSpec := { name := "aluDoes", fn := fun _ => fun
  | [d1, d2, d3, d4] => { results := [.lit (.bool true)], args := [d1, d2, d3, d4] }
  | _ => none }
def aluDoesRow : OpenClaim := { program := "ytnocdfajeanmdaa", sum := "d1196e08dccd1f05f04c64bd1ef94762c4e890b1a860891dfc922c714ad50cb4", func := "curtilage/curtilagelaw09.AluDoes", spec := "aluDoes", apart := false }
def AluDoesSaid : Prop := aluDoesRow.holds Try.pinned (OpenSpec.ofChange aluDoesSpec)

/-- ITS FALSE NEIGHBOUR: 'it returns false'. Refute it at one input. -/
def aluDoesWrong : ChangeSpec := { name := "aluDoes", fn := fun _ => fun
  | [d1, d2, d3, d4] => { results := [.lit (.bool false)], args := [d1, d2, d3, d4] }
  | _ => none }
def AluDoesWrongFalsely : Prop := aluDoesRow.holds Try.pinned (OpenSpec.ofChange aluDoesWrong)

/-- 'curtilagelaw09.AluBack': WHATEVER THE INPUT: true; the input reads as it did. -/
def aluBackSpec : ChangeSpec := { name := "aluBack", fn := fun _ => fun
  | [d1, d2] => { results := [.lit (.bool true)], args := [d1, d2] }
  | _ => none }
def aluBackRow : OpenClaim := { program := "ytnocdfajeanmdaa", sum := "d1196e08dccd1f05f04c64bd1ef94762c4e890b1a860891dfc922c714ad50cb4", func := "curtilage/curtilagelaw09.AluBack", spec := "aluBack", apart := false }
def AluBackSaid : Prop := aluBackRow.holds Try.pinned (OpenSpec.ofChange aluBackSpec)

/-- ITS FALSE NEIGHBOUR: 'it returns false'. Refute it at one input. -/
def aluBackWrong : ChangeSpec := { name := "aluBack", fn := fun _ => fun
  | [d1, d2] => { results := [.lit (.bool false)], args := [d1, d2] }
  | _ => none }
def AluBackWrongFalsely : Prop := aluBackRow.holds Try.pinned (OpenSpec.ofChange aluBackWrong)

/-- 'curtilagelaw07.SerialDoes': WHATEVER THE INPUT: true; the input reads as it did. -/
def serialDoesSpec : ChangeSpec := { name := "serialDoes", fn := fun _ => fun
  | [d1, d2, d3, d4] => { results := [.lit (.bool true)], args := [d1, d2, d3, d4] }
  | _ => none }
def serialDoesRow : OpenClaim := { program := "ytnocdfajeanmdaa", sum := "d1196e08dccd1f05f04c64bd1ef94762c4e890b1a860891dfc922c714ad50cb4", func := "curtilage/curtilagelaw07.SerialDoes", spec := "serialDoes", unfollowed := true, recurses := true, apart := false }
def SerialDoesSaid : Prop := serialDoesRow.holds Try.pinned (OpenSpec.ofChange serialDoesSpec)

/-- ITS FALSE NEIGHBOUR: 'it returns false'. Refute it at one input. -/
def serialDoesWrong : ChangeSpec := { name := "serialDoes", fn := fun _ => fun
  | [d1, d2, d3, d4] => { results := [.lit (.bool false)], args := [d1, d2, d3, d4] }
  | _ => none }
def SerialDoesWrongFalsely : Prop := serialDoesRow.holds Try.pinned (OpenSpec.ofChange serialDoesWrong)

/-- 'curtilagelaw07.SerialNever': WHATEVER THE INPUT: true; the input reads as it did. -/
def serialNeverSpec : ChangeSpec := { name := "serialNever", fn := fun _ => fun
  | [d1, d2, d3] => { results := [.lit (.bool true)], args := [d1, d2, d3] }
  | _ => none }
def serialNeverRow : OpenClaim := { program := "ytnocdfajeanmdaa", sum := "d1196e08dccd1f05f04c64bd1ef94762c4e890b1a860891dfc922c714ad50cb4", func := "curtilage/curtilagelaw07.SerialNever", spec := "serialNever", unfollowed := true, recurses := true, apart := false }
def SerialNeverSaid : Prop := serialNeverRow.holds Try.pinned (OpenSpec.ofChange serialNeverSpec)

/-- ITS FALSE NEIGHBOUR: 'it returns false'. Refute it at one input. -/
def serialNeverWrong : ChangeSpec := { name := "serialNever", fn := fun _ => fun
  | [d1, d2, d3] => { results := [.lit (.bool false)], args := [d1, d2, d3] }
  | _ => none }
def SerialNeverWrongFalsely : Prop := serialNeverRow.holds Try.pinned (OpenSpec.ofChange serialNeverWrong)

/- THE SECOND FORM. 'bulk': how many values and letters a reading holds, each counted each time it is reached (what is shared counts as often as it is met; a slice's spare places count too). A statement '..UptoSaid' is the law's where the arguments, and the package variables that the reading takes, are together of bulk at most 1048576: NARROWER than '..Said'. Prove '..Said' where nothing that the law and all that it calls make is longer than what came in: it says more and counts as full. Else prove '..UptoSaid'. A law counts once. -/
mutual
def uptoBulk {H : Type} : DataW H → Nat
  | .lit (.string bytes) => bytes.length + 1
  | .lit _ => 1
  | .nil => 1
  | .ptr d => uptoBulk d + 1
  | .slice elems spare => uptoBulkAll elems + uptoBulkAll spare + 1
  | .agg parts => uptoBulkAll parts + 1
  | .iface _ d => uptoBulk d + 1
  | .map entries => uptoBulkEntries entries + 1
  | .held _ => 1
def uptoBulkAll {H : Type} : List (DataW H) → Nat
  | [] => 0
  | d :: r => uptoBulk d + uptoBulkAll r
def uptoBulkEntries {H : Type} : List (Lit × DataW H) → Nat
  | [] => 0
  | x :: r => uptoBulkEntry x + uptoBulkEntries r
def uptoBulkEntry {H : Type} : Lit × DataW H → Nat
  | (.string bytes, d) => bytes.length + uptoBulk d + 1
  | (_, d) => uptoBulk d + 1
 end
def uptoSmall : (H : Type) → List (DataW H) → Bool := fun _ ds => decide (uptoBulkAll ds ≤ 1048576)
def OpenSpec.upto (s : _root_.Go.ChangeSpec) : _root_.Go.OpenSpec := { _root_.Go.OpenSpec.ofChange s with cond := some uptoSmall }

/-- 'curtilagelaw07.SerialRow', WHERE WHAT IT READS IS OF BULK AT MOST 1048576: true; the input reads as it did. -/
def serialRowUptoRow : OpenClaim := { program := "ytnocdfajeanmdaa", sum := "d1196e08dccd1f05f04c64bd1ef94762c4e890b1a860891dfc922c714ad50cb4", func := "curtilage/curtilagelaw07.SerialRow", spec := "serialRow", unfollowed := true, recurses := true, apart := false, narrowed := true }
def SerialRowUptoSaid : Prop := serialRowUptoRow.holds Try.pinned (OpenSpec.upto serialRowSpec)

/-- 'curtilagelaw06.PermNames', WHERE WHAT IT READS IS OF BULK AT MOST 1048576: true; the input reads as it did. -/
def permNamesUptoRow : OpenClaim := { program := "ytnocdfajeanmdaa", sum := "d1196e08dccd1f05f04c64bd1ef94762c4e890b1a860891dfc922c714ad50cb4", func := "curtilage/curtilagelaw06.PermNames", spec := "permNames", unfollowed := true, recurses := true, apart := false, narrowed := true }
def PermNamesUptoSaid : Prop := permNamesUptoRow.holds Try.pinned (OpenSpec.upto permNamesSpec)

/-- 'curtilagelaw06.PermBack', WHERE WHAT IT READS IS OF BULK AT MOST 1048576: true; the input reads as it did. -/
def permBackUptoRow : OpenClaim := { program := "ytnocdfajeanmdaa", sum := "d1196e08dccd1f05f04c64bd1ef94762c4e890b1a860891dfc922c714ad50cb4", func := "curtilage/curtilagelaw06.PermBack", spec := "permBack", unfollowed := true, recurses := true, apart := false, narrowed := true }
def PermBackUptoSaid : Prop := permBackUptoRow.holds Try.pinned (OpenSpec.upto permBackSpec)

/-- 'curtilagelaw06.PermMixes', WHERE WHAT IT READS IS OF BULK AT MOST 1048576: true; the input reads as it did. -/
def permMixesUptoRow : OpenClaim := { program := "ytnocdfajeanmdaa", sum := "d1196e08dccd1f05f04c64bd1ef94762c4e890b1a860891dfc922c714ad50cb4", func := "curtilage/curtilagelaw06.PermMixes", spec := "permMixes", unfollowed := true, recurses := true, apart := false, narrowed := true }
def PermMixesUptoSaid : Prop := permMixesUptoRow.holds Try.pinned (OpenSpec.upto permMixesSpec)

/-- 'curtilagelaw06.PermBits', WHERE WHAT IT READS IS OF BULK AT MOST 1048576: true; the input reads as it did. -/
def permBitsUptoRow : OpenClaim := { program := "ytnocdfajeanmdaa", sum := "d1196e08dccd1f05f04c64bd1ef94762c4e890b1a860891dfc922c714ad50cb4", func := "curtilage/curtilagelaw06.PermBits", spec := "permBits", unfollowed := true, recurses := true, apart := false, narrowed := true }
def PermBitsUptoSaid : Prop := permBitsUptoRow.holds Try.pinned (OpenSpec.upto permBitsSpec)

/-- 'curtilagelaw09.AluOrders', WHERE WHAT IT READS IS OF BULK AT MOST 1048576: true; the input reads as it did. -/
def aluOrdersUptoRow : OpenClaim := { program := "ytnocdfajeanmdaa", sum := "d1196e08dccd1f05f04c64bd1ef94762c4e890b1a860891dfc922c714ad50cb4", func := "curtilage/curtilagelaw09.AluOrders", spec := "aluOrders", apart := false, narrowed := true }
def AluOrdersUptoSaid : Prop := aluOrdersUptoRow.holds Try.pinned (OpenSpec.upto aluOrdersSpec)

/-- 'curtilagelaw09.AluSpreads', WHERE WHAT IT READS IS OF BULK AT MOST 1048576: true; the input reads as it did. -/
def aluSpreadsUptoRow : OpenClaim := { program := "ytnocdfajeanmdaa", sum := "d1196e08dccd1f05f04c64bd1ef94762c4e890b1a860891dfc922c714ad50cb4", func := "curtilage/curtilagelaw09.AluSpreads", spec := "aluSpreads", apart := false, narrowed := true }
def AluSpreadsUptoSaid : Prop := aluSpreadsUptoRow.holds Try.pinned (OpenSpec.upto aluSpreadsSpec)

/-- 'curtilagelaw07.SerialParts', WHERE WHAT IT READS IS OF BULK AT MOST 1048576: true; the input reads as it did. -/
def serialPartsUptoRow : OpenClaim := { program := "ytnocdfajeanmdaa", sum := "d1196e08dccd1f05f04c64bd1ef94762c4e890b1a860891dfc922c714ad50cb4", func := "curtilage/curtilagelaw07.SerialParts", spec := "serialParts", unfollowed := true, recurses := true, apart := false, narrowed := true }
def SerialPartsUptoSaid : Prop := serialPartsUptoRow.holds Try.pinned (OpenSpec.upto serialPartsSpec)

/-- 'curtilagelaw09.AluDoes', WHERE WHAT IT READS IS OF BULK AT MOST 1048576: true; the input reads as it did. -/
def aluDoesUptoRow : OpenClaim := { program := "ytnocdfajeanmdaa", sum := "d1196e08dccd1f05f04c64bd1ef94762c4e890b1a860891dfc922c714ad50cb4", func := "curtilage/curtilagelaw09.AluDoes", spec := "aluDoes", apart := false, narrowed := true }
def AluDoesUptoSaid : Prop := aluDoesUptoRow.holds Try.pinned (OpenSpec.upto aluDoesSpec)

/-- 'curtilagelaw09.AluBack', WHERE WHAT IT READS IS OF BULK AT MOST 1048576: true; the input reads as it did. -/
def aluBackUptoRow : OpenClaim := { program := "ytnocdfajeanmdaa", sum := "d1196e08dccd1f05f04c64bd1ef94762c4e890b1a860891dfc922c714ad50cb4", func := "curtilage/curtilagelaw09.AluBack", spec := "aluBack", apart := false, narrowed := true }
def AluBackUptoSaid : Prop := aluBackUptoRow.holds Try.pinned (OpenSpec.upto aluBackSpec)

/-- 'curtilagelaw07.SerialDoes', WHERE WHAT IT READS IS OF BULK AT MOST 1048576: true; the input reads as it did. -/
def serialDoesUptoRow : OpenClaim := { program := "ytnocdfajeanmdaa", sum := "d1196e08dccd1f05f04c64bd1ef94762c4e890b1a860891dfc922c714ad50cb4", func := "curtilage/curtilagelaw07.SerialDoes", spec := "serialDoes", unfollowed := true, recurses := true, apart := false, narrowed := true }
def SerialDoesUptoSaid : Prop := serialDoesUptoRow.holds Try.pinned (OpenSpec.upto serialDoesSpec)

/-- 'curtilagelaw07.SerialNever', WHERE WHAT IT READS IS OF BULK AT MOST 1048576: true; the input reads as it did. -/
def serialNeverUptoRow : OpenClaim := { program := "ytnocdfajeanmdaa", sum := "d1196e08dccd1f05f04c64bd1ef94762c4e890b1a860891dfc922c714ad50cb4", func := "curtilage/curtilagelaw07.SerialNever", spec := "serialNever", unfollowed := true, recurses := true, apart := false, narrowed := true }
def SerialNeverUptoSaid : Prop := serialNeverUptoRow.holds Try.pinned (OpenSpec.upto serialNeverSpec)

end Rows
end Go.Proofs.Ytnocdfajeanmdaa
