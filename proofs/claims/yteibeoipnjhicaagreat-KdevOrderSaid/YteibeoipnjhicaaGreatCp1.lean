import Derived.Test.YteibeoipnjhicaaGreatEcf
namespace Go.Proofs.YteibeoipnjhicaaGreat
open Go Go.RowKit
set_option linter.unusedVariables false
set_option linter.unusedSimpArgs false
set_option maxHeartbeats 16000000
set_option maxRecDepth 100000
attribute [go_sem] Option.map_none Option.map_some
@[go_sem] theorem drop1_one (x : List PV) (l : List Int) : List.drop 1 (List.take (l.length + 1) (x :: List.map u64 l)) = List.map u64 l := by
  rw [List.take_of_length_le (by simp)]; rfl
attribute [local irreducible] q1a dr q0i Ex.then Ex.inBlock retQ q1r q3f q3e Pure CSat evOp q2r rdOf upd hset strip sp0 cut envL q3h q4c Keep BdL evBs q3n q3z
end Go.Proofs.YteibeoipnjhicaaGreat
