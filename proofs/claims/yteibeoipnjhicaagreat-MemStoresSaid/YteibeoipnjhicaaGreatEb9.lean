import Derived.Test.YteibeoipnjhicaaGreatEb8
namespace Go.Proofs.YteibeoipnjhicaaGreat
open Go Go.RowKit
set_option linter.unusedVariables false
set_option linter.unusedSimpArgs false
set_option maxHeartbeats 16000000
set_option maxRecDepth 100000
attribute [local irreducible] q0x dr q0g Ex.then Ex.inBlock retQ q1x q3g q3e Pure CSat evOp q2o rdOf upd hset strip sp0 cut envL q2u q4j Keep BdL evBs q3m q4g
end Go.Proofs.YteibeoipnjhicaaGreat
