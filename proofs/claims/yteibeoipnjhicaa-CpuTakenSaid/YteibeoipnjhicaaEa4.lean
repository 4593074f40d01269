import Derived.Test.YteibeoipnjhicaaEa2
import Derived.Test.YteibeoipnjhicaaEa3
namespace Go.Proofs.Yteibeoipnjhicaa
open Go Go.RowKit
set_option linter.unusedVariables false
set_option linter.unusedSimpArgs false
set_option maxHeartbeats 8000000
set_option maxRecDepth 100000
attribute [local irreducible] pwOps dr pwCode Ex.then Ex.inBlock retQ okAll drawOk Pure CSat evOp calleeP rdOf upd hset strip sp0 cut envL heapL Again Keep BdL evBs AgainK KeepK
/-! The document's answers about objects: numbers, labels, lists. -/
def spanFit (s : Sp) : Bool := decide (s.lo ≤ s.hi) && decide (s.hi ≤ 2305843009213693952)
def idOk (n : Int) : Bool := decide (n ≥ 1) && decide (n ≤ 2305843009213693952)
def noAbove (l : List Pr) (k : Nat) : Bool := match l[k]? with
  | some x => !(x.lev == 5)
  | none => true
def kept (l : List Pr) : Bool := allB l.length (noAbove l) && (decide (l.length ≤ 16) && labFit l)
def risAt (l : List Int) (k : Nat) : Bool := match l[k]? with
  | none => true
  | some x => idOk x && (match k with
    | 0 => true
    | j + 1 => match l[j]? with
      | some y => !decide (y ≥ x)
      | none => true)
end Go.Proofs.Yteibeoipnjhicaa
