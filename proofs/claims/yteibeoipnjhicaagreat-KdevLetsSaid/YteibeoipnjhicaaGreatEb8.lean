import Derived.Test.YteibeoipnjhicaaGreatLpl
namespace Go.Proofs.YteibeoipnjhicaaGreat
open Go Go.RowKit
set_option linter.unusedVariables false
set_option linter.unusedSimpArgs false
set_option maxHeartbeats 16000000
set_option maxRecDepth 100000
attribute [local irreducible] q1a dr q0i Ex.then Ex.inBlock retQ q1r q3f q3e Pure CSat evOp q2r rdOf upd hset strip sp0 cut envL q3h q4c Keep BdL evBs q3n q3z
end Go.Proofs.YteibeoipnjhicaaGreat
