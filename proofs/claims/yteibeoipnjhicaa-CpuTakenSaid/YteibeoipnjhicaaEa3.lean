import Derived.Test.YteibeoipnjhicaaEa1
namespace Go.Proofs.Yteibeoipnjhicaa
open Go Go.RowKit
set_option linter.unusedVariables false
set_option linter.unusedSimpArgs false
set_option maxHeartbeats 4000000
set_option maxRecDepth 100000
attribute [local irreducible] pwOps dr pwCode Ex.then Ex.inBlock retQ okAll drawOk Pure CSat evOp calleeP rdOf upd hset strip sp0 cut envL heapL Again Keep BdL evBs AgainK KeepK
/-! What a label owns. -/
def own (l : List Pr) : List Int := (l.filter (fun p => p.lev == 0)).map (·.cat)
theorem own_yes {l : List Pr} {n : Nat} {x : Pr} (hx : l[n]? = some x) (h : (x.lev == 0) = true) : own (l.take (n + 1)) = own (l.take n) ++ [x.cat] := by
  rw [take_snoc hx]; simp [own, List.filter_append, List.filter_cons, h]
theorem own_no {l : List Pr} {n : Nat} {x : Pr} (hx : l[n]? = some x) (h : (x.lev == 0) = false) : own (l.take (n + 1)) = own (l.take n) := by
  rw [take_snoc hx]; simp [own, List.filter_append, List.filter_cons, h]
theorem own_len (l : List Pr) : (own l).length ≤ l.length := by simp [own]; exact List.length_filter_le _ _
end Go.Proofs.Yteibeoipnjhicaa
