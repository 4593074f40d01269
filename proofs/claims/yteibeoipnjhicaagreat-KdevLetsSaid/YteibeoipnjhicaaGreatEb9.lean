import Derived.Test.YteibeoipnjhicaaGreatEb8
namespace Go.Proofs.YteibeoipnjhicaaGreat
open Go Go.RowKit
set_option linter.unusedVariables false
set_option linter.unusedSimpArgs false
set_option maxHeartbeats 16000000
set_option maxRecDepth 100000
attribute [local irreducible] q0z dr q0i Ex.then Ex.inBlock retQ q1r q3e q3c Pure CSat evOp q2n rdOf upd hset strip sp0 cut envL q3f q4c Keep BdL evBs q3m q4a
end Go.Proofs.YteibeoipnjhicaaGreat
