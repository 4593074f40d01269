import Derived.Test.YteibeoipnjhicaaEa6
namespace Go.Proofs.Yteibeoipnjhicaa
open Go Go.RowKit
set_option linter.unusedVariables false
set_option linter.unusedSimpArgs false
set_option maxHeartbeats 16000000
set_option maxRecDepth 100000
attribute [local irreducible] pwOps dr pwCode Ex.then Ex.inBlock retQ okAll drawOk Pure CSat evOp calleeP rdOf upd hset strip sp0 cut envL heapL Again Keep BdL evBs AgainK KeepK
/-! The document's answers: which objects can be. -/
def labsKept (t : Th) (i : Nat) : Bool := kept (t.labs i)
def thFit (l : List Pr) (t : Th) : Bool := allB 4 (labsKept t) && (!(!(t.state == 1) && !decide (t.wait = Wt.zero)) && (kept t.clear && (leqR l t.clear && (decide (t.state ≥ 0) && (decide (t.state ≤ 2) && (decide ((t.alerts.length : Int) ≤ 8) && spanFit t.span))))))
def aloneOf (o : Ob) : Ob :=
  if (o.kind == 1) = true then { Ob.zero with id := o.id, kind := o.kind, label := o.label, quota := o.quota, fixed := o.fixed, data := o.data }
  else if (o.kind == 2) = true then { Ob.zero with id := o.id, kind := o.kind, label := o.label, quota := o.quota, fixed := o.fixed, links := o.links }
  else if (o.kind == 3) = true then { Ob.zero with id := o.id, kind := o.kind, label := o.label, quota := o.quota, fixed := o.fixed, maps := o.maps }
  else if (o.kind == 4) = true then { Ob.zero with id := o.id, kind := o.kind, label := o.label, quota := o.quota, fixed := o.fixed, thread := o.thread }
  else if (o.kind == 5) = true then { Ob.zero with id := o.id, kind := o.kind, label := o.label, quota := o.quota, fixed := o.fixed, gate := o.gate }
  else if (o.kind == 6) = true then { Ob.zero with id := o.id, kind := o.kind, label := o.label, quota := o.quota, fixed := o.fixed, inn := o.inn, out := o.out }
  else { Ob.zero with id := o.id, kind := o.kind, label := o.label, quota := o.quota, fixed := o.fixed }
def inner (o : Ob) : Bool :=
  if (o.kind == 1) = true then decide ((o.data.length : Int) ≤ IntKind.i64.wrap (16 * IntKind.i64.wrap (o.quota - 1)))
  else if (o.kind == 2) = true then decide ((o.links.length : Int) ≤ 64) && allB o.links.length (risAt o.links)
  else if (o.kind == 3) = true then mapFit o.maps
  else if (o.kind == 4) = true then thFit o.label o.thread && !o.fixed
  else if (o.kind == 5) = true then kept o.gate.grant && (kept o.gate.clear && leqR o.gate.grant o.gate.clear)
  else decide ((o.inn.length : Int) ≤ 64) && decide ((o.out.length : Int) ≤ 1024)
def soundHead (o : Ob) : Bool := idOk o.id && (!decide (o.kind < 1) && (!decide (o.kind > 6) && (kept o.label && (!decide (o.quota < 1) && (!decide (o.quota > 4096) && sameOb (aloneOf o) o)))))
def sound (o : Ob) : Bool := soundHead o && (((o.kind == 4) || !decide (((own o.label).length : Int) > 0)) && inner o)
end Go.Proofs.Yteibeoipnjhicaa
