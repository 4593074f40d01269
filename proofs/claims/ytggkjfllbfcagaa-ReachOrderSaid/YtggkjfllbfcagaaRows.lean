/-
  No cell of these rows narrows 'for every input' (looked for: loops, veiled, ifaces, maps, wideKeys, modest, calm, conditions, laid).
  DERIVED. THE GIVEN ROWS OF THIS SEAT. 10 by the template 'for every input the law returns true; each argument reads behind the call as it read before'; 0 by the template 'total and deterministic' (their statements: YtggkjfllbfcagaaTotals.lean).
  GIVEN WITH THE SEED: the statements are not yours to turn. If you find one false, say at which input.
  Laid BY PROGRAM, IN A SANDBOX (cutbox-rows.mjs): the forced cells as the released guide's own fill.sh prints them over the translation f57f0b3e8dfcd18e… (all of the seat's roots in one cut). By AI agents, Wed Nov 11 2026. No macro, syntax, notation, axiom, sorry.
-/
import Derived.Test.YtggkjfllbfcagaaChecked
import GoSem.Claim
import GoSem.ClaimJoined
import GoSem.ClaimMapViews
import Derived.JoinedTies
import Derived.KernelRfl
namespace Go.Proofs.Ytggkjfllbfcagaa
/- THE CELL 'sum', in the pinned program and in every row, IS THE sha256 OF THE DUMP (.gsa) THAT YtggkjfllbfcagaaProg.lean LOADS. Nothing in Lean hashes anything: it is a label: what it is worth is what the hold of that sum in a sandbox is worth. -/
noncomputable def Try.pinned : Pinned := { name := "ytggkjfllbfcagaa", sum := "f57f0b3e8dfcd18ef1946be9f688db7ca195fcacced7c740505d791bf0b415fa", checked := Try.checked }
namespace Rows
def none {H : Type} : Left H := { results := [], args := [] }

/-- 'curtilagelaw16.SegFound': WHATEVER THE INPUT: true; the input reads as it did. -/
def segFoundSpec : ChangeSpec := { name := "segFound", fn := fun _ => fun
  | [d1, d2, d3, d4, d5] => { results := [.lit (.bool true)], args := [d1, d2, d3, d4, d5] }
  | _ => none }
def segFoundRow : OpenClaim := { program := "ytggkjfllbfcagaa", sum := "f57f0b3e8dfcd18ef1946be9f688db7ca195fcacced7c740505d791bf0b415fa", func := "curtilage/curtilagelaw16.SegFound", spec := "segFound", apart := false }
def SegFoundSaid : Prop := segFoundRow.holds Try.pinned (OpenSpec.ofChange segFoundSpec)

/-- ITS FALSE NEIGHBOUR: 'it returns false'. Refute it at one input. -/
def segFoundWrong : ChangeSpec := { name := "segFound", fn := fun _ => fun
  | [d1, d2, d3, d4, d5] => { results := [.lit (.bool false)], args := [d1, d2, d3, d4, d5] }
  | _ => none }
def SegFoundWrongFalsely : Prop := segFoundRow.holds Try.pinned (OpenSpec.ofChange segFoundWrong)

/-- 'curtilagelaw12.PagesParts': WHATEVER THE INPUT: true; the input reads as it did. -/
def pagesPartsSpec : ChangeSpec := { name := "pagesParts", fn := fun _ => fun
  | [d1, d2, d3, d4] => { results := [.lit (.bool true)], args := [d1, d2, d3, d4] }
  | _ => none }
def pagesPartsRow : OpenClaim := { program := "ytggkjfllbfcagaa", sum := "f57f0b3e8dfcd18ef1946be9f688db7ca195fcacced7c740505d791bf0b415fa", func := "curtilage/curtilagelaw12.PagesParts", spec := "pagesParts", inPlace := ["slices.overlaps[curtilage/api.Map]"], unfollowed := true, recurses := true, apart := false }
def PagesPartsSaid : Prop := pagesPartsRow.holds Try.pinned (OpenSpec.ofChange pagesPartsSpec)

/-- ITS FALSE NEIGHBOUR: 'it returns false'. Refute it at one input. -/
def pagesPartsWrong : ChangeSpec := { name := "pagesParts", fn := fun _ => fun
  | [d1, d2, d3, d4] => { results := [.lit (.bool false)], args := [d1, d2, d3, d4] }
  | _ => none }
def PagesPartsWrongFalsely : Prop := pagesPartsRow.holds Try.pinned (OpenSpec.ofChange pagesPartsWrong)

/-- 'curtilagelaw17.ReachFinds': WHATEVER THE INPUT: true; the input reads as it did. -/
def reachFindsSpec : ChangeSpec := { name := "reachFinds", fn := fun _ => fun
  | [d1, d2, d3, d4, d5] => { results := [.lit (.bool true)], args := [d1, d2, d3, d4, d5] }
  | _ => none }
def reachFindsRow : OpenClaim := { program := "ytggkjfllbfcagaa", sum := "f57f0b3e8dfcd18ef1946be9f688db7ca195fcacced7c740505d791bf0b415fa", func := "curtilage/curtilagelaw17.ReachFinds", spec := "reachFinds", unfollowed := true, recurses := true, apart := false }
def ReachFindsSaid : Prop := reachFindsRow.holds Try.pinned (OpenSpec.ofChange reachFindsSpec)

/-- ITS FALSE NEIGHBOUR: 'it returns false'. Refute it at one input. -/
def reachFindsWrong : ChangeSpec := { name := "reachFinds", fn := fun _ => fun
  | [d1, d2, d3, d4, d5] => { results := [.lit (.bool false)], args := [d1, d2, d3, d4, d5] }
  | _ => none }
def ReachFindsWrongFalsely : Prop := reachFindsRow.holds Try.pinned (OpenSpec.ofChange reachFindsWrong)

/-- 'curtilagelaw17.ReachSeen': WHATEVER THE INPUT: true; the input reads as it did. -/
def reachSeenSpec : ChangeSpec := { name := "reachSeen", fn := fun _ => fun
  | [d1, d2, d3, d4, d5, d6, d7] => { results := [.lit (.bool true)], args := [d1, d2, d3, d4, d5, d6, d7] }
  | _ => none }
def reachSeenRow : OpenClaim := { program := "ytggkjfllbfcagaa", sum := "f57f0b3e8dfcd18ef1946be9f688db7ca195fcacced7c740505d791bf0b415fa", func := "curtilage/curtilagelaw17.ReachSeen", spec := "reachSeen", unfollowed := true, recurses := true, apart := false }
def ReachSeenSaid : Prop := reachSeenRow.holds Try.pinned (OpenSpec.ofChange reachSeenSpec)

/-- ITS FALSE NEIGHBOUR: 'it returns false'. Refute it at one input. -/
def reachSeenWrong : ChangeSpec := { name := "reachSeen", fn := fun _ => fun
  | [d1, d2, d3, d4, d5, d6, d7] => { results := [.lit (.bool false)], args := [d1, d2, d3, d4, d5, d6, d7] }
  | _ => none }
def ReachSeenWrongFalsely : Prop := reachSeenRow.holds Try.pinned (OpenSpec.ofChange reachSeenWrong)

/-- 'curtilagelaw17.ReachOrder': WHATEVER THE INPUT: true; the input reads as it did. -/
def reachOrderSpec : ChangeSpec := { name := "reachOrder", fn := fun _ => fun
  | [d1, d2, d3, d4] => { results := [.lit (.bool true)], args := [d1, d2, d3, d4] }
  | _ => none }
def reachOrderRow : OpenClaim := { program := "ytggkjfllbfcagaa", sum := "f57f0b3e8dfcd18ef1946be9f688db7ca195fcacced7c740505d791bf0b415fa", func := "curtilage/curtilagelaw17.ReachOrder", spec := "reachOrder", unfollowed := true, recurses := true, apart := false }
def ReachOrderSaid : Prop := reachOrderRow.holds Try.pinned (OpenSpec.ofChange reachOrderSpec)

/-- ITS FALSE NEIGHBOUR: 'it returns false'. Refute it at one input. -/
def reachOrderWrong : ChangeSpec := { name := "reachOrder", fn := fun _ => fun
  | [d1, d2, d3, d4] => { results := [.lit (.bool false)], args := [d1, d2, d3, d4] }
  | _ => none }
def ReachOrderWrongFalsely : Prop := reachOrderRow.holds Try.pinned (OpenSpec.ofChange reachOrderWrong)

/-- 'curtilagelaw12.PagesOne': WHATEVER THE INPUT: true; the input reads as it did. -/
def pagesOneSpec : ChangeSpec := { name := "pagesOne", fn := fun _ => fun
  | [d1, d2, d3] => { results := [.lit (.bool true)], args := [d1, d2, d3] }
  | _ => none }
def pagesOneRow : OpenClaim := { program := "ytggkjfllbfcagaa", sum := "f57f0b3e8dfcd18ef1946be9f688db7ca195fcacced7c740505d791bf0b415fa", func := "curtilage/curtilagelaw12.PagesOne", spec := "pagesOne", inPlace := ["slices.overlaps[curtilage/api.Map]"], unfollowed := true, recurses := true, apart := false }
def PagesOneSaid : Prop := pagesOneRow.holds Try.pinned (OpenSpec.ofChange pagesOneSpec)

/-- ITS FALSE NEIGHBOUR: 'it returns false'. Refute it at one input. -/
def pagesOneWrong : ChangeSpec := { name := "pagesOne", fn := fun _ => fun
  | [d1, d2, d3] => { results := [.lit (.bool false)], args := [d1, d2, d3] }
  | _ => none }
def PagesOneWrongFalsely : Prop := pagesOneRow.holds Try.pinned (OpenSpec.ofChange pagesOneWrong)

/-- 'curtilagelaw12.PagesDo': WHATEVER THE INPUT: true; the input reads as it did. -/
def pagesDoSpec : ChangeSpec := { name := "pagesDo", fn := fun _ => fun
  | [d1, d2, d3, d4, d5] => { results := [.lit (.bool true)], args := [d1, d2, d3, d4, d5] }
  | _ => none }
def pagesDoRow : OpenClaim := { program := "ytggkjfllbfcagaa", sum := "f57f0b3e8dfcd18ef1946be9f688db7ca195fcacced7c740505d791bf0b415fa", func := "curtilage/curtilagelaw12.PagesDo", spec := "pagesDo", inPlace := ["slices.overlaps[curtilage/api.Map]"], unfollowed := true, recurses := true, apart := false }
def PagesDoSaid : Prop := pagesDoRow.holds Try.pinned (OpenSpec.ofChange pagesDoSpec)

/-- ITS FALSE NEIGHBOUR: 'it returns false'. Refute it at one input. -/
def pagesDoWrong : ChangeSpec := { name := "pagesDo", fn := fun _ => fun
  | [d1, d2, d3, d4, d5] => { results := [.lit (.bool false)], args := [d1, d2, d3, d4, d5] }
  | _ => none }
def PagesDoWrongFalsely : Prop := pagesDoRow.holds Try.pinned (OpenSpec.ofChange pagesDoWrong)

/-- 'curtilagelaw16.SegSwaps': WHATEVER THE INPUT: true; the input reads as it did. -/
def segSwapsSpec : ChangeSpec := { name := "segSwaps", fn := fun _ => fun
  | [d1, d2, d3, d4, d5, d6] => { results := [.lit (.bool true)], args := [d1, d2, d3, d4, d5, d6] }
  | _ => none }
def segSwapsRow : OpenClaim := { program := "ytggkjfllbfcagaa", sum := "f57f0b3e8dfcd18ef1946be9f688db7ca195fcacced7c740505d791bf0b415fa", func := "curtilage/curtilagelaw16.SegSwaps", spec := "segSwaps", unfollowed := true, recurses := true, apart := false }
def SegSwapsSaid : Prop := segSwapsRow.holds Try.pinned (OpenSpec.ofChange segSwapsSpec)

/-- ITS FALSE NEIGHBOUR: 'it returns false'. Refute it at one input. -/
def segSwapsWrong : ChangeSpec := { name := "segSwaps", fn := fun _ => fun
  | [d1, d2, d3, d4, d5, d6] => { results := [.lit (.bool false)], args := [d1, d2, d3, d4, d5, d6] }
  | _ => none }
def SegSwapsWrongFalsely : Prop := segSwapsRow.holds Try.pinned (OpenSpec.ofChange segSwapsWrong)

/-- 'curtilagelaw16.SegDoes': WHATEVER THE INPUT: true; the input reads as it did. -/
def segDoesSpec : ChangeSpec := { name := "segDoes", fn := fun _ => fun
  | [d1, d2, d3, d4, d5, d6] => { results := [.lit (.bool true)], args := [d1, d2, d3, d4, d5, d6] }
  | _ => none }
def segDoesRow : OpenClaim := { program := "ytggkjfllbfcagaa", sum := "f57f0b3e8dfcd18ef1946be9f688db7ca195fcacced7c740505d791bf0b415fa", func := "curtilage/curtilagelaw16.SegDoes", spec := "segDoes", unfollowed := true, recurses := true, apart := false }
def SegDoesSaid : Prop := segDoesRow.holds Try.pinned (OpenSpec.ofChange segDoesSpec)

/-- ITS FALSE NEIGHBOUR: 'it returns false'. Refute it at one input. -/
def segDoesWrong : ChangeSpec := { name := "segDoes", fn := fun _ => fun
  | [d1, d2, d3, d4, d5, d6] => { results := [.lit (.bool false)], args := [d1, d2, d3, d4, d5, d6] }
  | _ => none }
def SegDoesWrongFalsely : Prop := segDoesRow.holds Try.pinned (OpenSpec.ofChange segDoesWrong)

/-- 'curtilagelaw13.ObjShows': WHATEVER THE INPUT: true; the input reads as it did. -/
def objShowsSpec : ChangeSpec := { name := "objShows", fn := fun _ => fun
  | [d] => { results := [.lit (.bool true)], args := [d] }
  | _ => none }
def objShowsRow : OpenClaim := { program := "ytggkjfllbfcagaa", sum := "f57f0b3e8dfcd18ef1946be9f688db7ca195fcacced7c740505d791bf0b415fa", func := "curtilage/curtilagelaw13.ObjShows", spec := "objShows", unfollowed := true, recurses := true, apart := false }
def ObjShowsSaid : Prop := objShowsRow.holds Try.pinned (OpenSpec.ofChange objShowsSpec)

/-- ITS FALSE NEIGHBOUR: 'it returns false'. Refute it at one input. -/
def objShowsWrong : ChangeSpec := { name := "objShows", fn := fun _ => fun
  | [d] => { results := [.lit (.bool false)], args := [d] }
  | _ => none }
def ObjShowsWrongFalsely : Prop := objShowsRow.holds Try.pinned (OpenSpec.ofChange objShowsWrong)

/- THE SECOND FORM. 'bulk': how many values and letters a reading holds, each counted each time it is reached (what is shared counts as often as it is met; a slice's spare places count too). A statement '..UptoSaid' is the law's where the arguments, and the package variables that the reading takes, are together of bulk at most 1048576: NARROWER than '..Said'. Prove '..Said' where nothing that the law and all that it calls make is longer than what came in: it says more and counts as full. Else prove '..UptoSaid'. A law counts once. -/
mutual
def uptoBulk {H : Type} : DataW H → Nat
  | .lit (.string bytes) => bytes.length + 1
  | .lit _ => 1
  | .nil => 1
  | .ptr d => uptoBulk d + 1
  | .slice elems spare => uptoBulkAll elems + uptoBulkAll spare + 1
  | .agg parts => uptoBulkAll parts + 1
  | .iface _ d => uptoBulk d + 1
  | .map entries => uptoBulkEntries entries + 1
  | .held _ => 1
def uptoBulkAll {H : Type} : List (DataW H) → Nat
  | [] => 0
  | d :: r => uptoBulk d + uptoBulkAll r
def uptoBulkEntries {H : Type} : List (Lit × DataW H) → Nat
  | [] => 0
  | x :: r => uptoBulkEntry x + uptoBulkEntries r
def uptoBulkEntry {H : Type} : Lit × DataW H → Nat
  | (.string bytes, d) => bytes.length + uptoBulk d + 1
  | (_, d) => uptoBulk d + 1
 end
def uptoSmall : (H : Type) → List (DataW H) → Bool := fun _ ds => decide (uptoBulkAll ds ≤ 1048576)
def OpenSpec.upto (s : _root_.Go.ChangeSpec) : _root_.Go.OpenSpec := { _root_.Go.OpenSpec.ofChange s with cond := some uptoSmall }

/-- 'curtilagelaw16.SegFound', WHERE WHAT IT READS IS OF BULK AT MOST 1048576: true; the input reads as it did. -/
def segFoundUptoRow : OpenClaim := { program := "ytggkjfllbfcagaa", sum := "f57f0b3e8dfcd18ef1946be9f688db7ca195fcacced7c740505d791bf0b415fa", func := "curtilage/curtilagelaw16.SegFound", spec := "segFound", apart := false, narrowed := true }
def SegFoundUptoSaid : Prop := segFoundUptoRow.holds Try.pinned (OpenSpec.upto segFoundSpec)

/-- 'curtilagelaw12.PagesParts', WHERE WHAT IT READS IS OF BULK AT MOST 1048576: true; the input reads as it did. -/
def pagesPartsUptoRow : OpenClaim := { program := "ytggkjfllbfcagaa", sum := "f57f0b3e8dfcd18ef1946be9f688db7ca195fcacced7c740505d791bf0b415fa", func := "curtilage/curtilagelaw12.PagesParts", spec := "pagesParts", inPlace := ["slices.overlaps[curtilage/api.Map]"], unfollowed := true, recurses := true, apart := false, narrowed := true }
def PagesPartsUptoSaid : Prop := pagesPartsUptoRow.holds Try.pinned (OpenSpec.upto pagesPartsSpec)

/-- 'curtilagelaw17.ReachFinds', WHERE WHAT IT READS IS OF BULK AT MOST 1048576: true; the input reads as it did. -/
def reachFindsUptoRow : OpenClaim := { program := "ytggkjfllbfcagaa", sum := "f57f0b3e8dfcd18ef1946be9f688db7ca195fcacced7c740505d791bf0b415fa", func := "curtilage/curtilagelaw17.ReachFinds", spec := "reachFinds", unfollowed := true, recurses := true, apart := false, narrowed := true }
def ReachFindsUptoSaid : Prop := reachFindsUptoRow.holds Try.pinned (OpenSpec.upto reachFindsSpec)

/-- 'curtilagelaw17.ReachSeen', WHERE WHAT IT READS IS OF BULK AT MOST 1048576: true; the input reads as it did. -/
def reachSeenUptoRow : OpenClaim := { program := "ytggkjfllbfcagaa", sum := "f57f0b3e8dfcd18ef1946be9f688db7ca195fcacced7c740505d791bf0b415fa", func := "curtilage/curtilagelaw17.ReachSeen", spec := "reachSeen", unfollowed := true, recurses := true, apart := false, narrowed := true }
def ReachSeenUptoSaid : Prop := reachSeenUptoRow.holds Try.pinned (OpenSpec.upto reachSeenSpec)

/-- 'curtilagelaw17.ReachOrder', WHERE WHAT IT READS IS OF BULK AT MOST 1048576: true; the input reads as it did. -/
def reachOrderUptoRow : OpenClaim := { program := "ytggkjfllbfcagaa", sum := "f57f0b3e8dfcd18ef1946be9f688db7ca195fcacced7c740505d791bf0b415fa", func := "curtilage/curtilagelaw17.ReachOrder", spec := "reachOrder", unfollowed := true, recurses := true, apart := false, narrowed := true }
def ReachOrderUptoSaid : Prop := reachOrderUptoRow.holds Try.pinned (OpenSpec.upto reachOrderSpec)

/-- 'curtilagelaw12.PagesOne', WHERE WHAT IT READS IS OF BULK AT MOST 1048576: true; the input reads as it did. -/
def pagesOneUptoRow : OpenClaim := { program := "ytggkjfllbfcagaa", sum := "f57f0b3e8dfcd18ef1946be9f688db7ca195fcacced7c740505d791bf0b415fa", func := "curtilage/curtilagelaw12.PagesOne", spec := "pagesOne", inPlace := ["slices.overlaps[curtilage/api.Map]"], unfollowed := true, recurses := true, apart := false, narrowed := true }
def PagesOneUptoSaid : Prop := pagesOneUptoRow.holds Try.pinned (OpenSpec.upto pagesOneSpec)

/-- 'curtilagelaw12.PagesDo', WHERE WHAT IT READS IS OF BULK AT MOST 1048576: true; the input reads as it did. -/
def pagesDoUptoRow : OpenClaim := { program := "ytggkjfllbfcagaa", sum := "f57f0b3e8dfcd18ef1946be9f688db7ca195fcacced7c740505d791bf0b415fa", func := "curtilage/curtilagelaw12.PagesDo", spec := "pagesDo", inPlace := ["slices.overlaps[curtilage/api.Map]"], unfollowed := true, recurses := true, apart := false, narrowed := true }
def PagesDoUptoSaid : Prop := pagesDoUptoRow.holds Try.pinned (OpenSpec.upto pagesDoSpec)

/-- 'curtilagelaw16.SegSwaps', WHERE WHAT IT READS IS OF BULK AT MOST 1048576: true; the input reads as it did. -/
def segSwapsUptoRow : OpenClaim := { program := "ytggkjfllbfcagaa", sum := "f57f0b3e8dfcd18ef1946be9f688db7ca195fcacced7c740505d791bf0b415fa", func := "curtilage/curtilagelaw16.SegSwaps", spec := "segSwaps", unfollowed := true, recurses := true, apart := false, narrowed := true }
def SegSwapsUptoSaid : Prop := segSwapsUptoRow.holds Try.pinned (OpenSpec.upto segSwapsSpec)

/-- 'curtilagelaw16.SegDoes', WHERE WHAT IT READS IS OF BULK AT MOST 1048576: true; the input reads as it did. -/
def segDoesUptoRow : OpenClaim := { program := "ytggkjfllbfcagaa", sum := "f57f0b3e8dfcd18ef1946be9f688db7ca195fcacced7c740505d791bf0b415fa", func := "curtilage/curtilagelaw16.SegDoes", spec := "segDoes", unfollowed := true, recurses := true, apart := false, narrowed := true }
def SegDoesUptoSaid : Prop := segDoesUptoRow.holds Try.pinned (OpenSpec.upto segDoesSpec)

/-- 'curtilagelaw13.ObjShows', WHERE WHAT IT READS IS OF BULK AT MOST 1048576: true; the input reads as it did. -/
def objShowsUptoRow : OpenClaim := { program := "ytggkjfllbfcagaa", sum := "f57f0b3e8dfcd18ef1946be9f688db7ca195fcacced7c740505d791bf0b415fa", func := "curtilage/curtilagelaw13.ObjShows", spec := "objShows", unfollowed := true, recurses := true, apart := false, narrowed := true }
def ObjShowsUptoSaid : Prop := objShowsUptoRow.holds Try.pinned (OpenSpec.upto objShowsSpec)

end Rows
end Go.Proofs.Ytggkjfllbfcagaa
