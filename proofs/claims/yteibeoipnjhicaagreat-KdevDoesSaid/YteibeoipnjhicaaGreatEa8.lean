import Derived.Test.YteibeoipnjhicaaGreatEa7
namespace Go.Proofs.YteibeoipnjhicaaGreat
open Go Go.RowKit
set_option linter.unusedVariables false
set_option linter.unusedSimpArgs false
set_option maxHeartbeats 16000000
set_option maxRecDepth 100000
attribute [local irreducible] q0z dr q0i Ex.then Ex.inBlock retQ q1r q3e q3c Pure CSat evOp q2n rdOf upd hset strip sp0 cut envL q3f q4c Keep BdL evBs q3m q4a
theorem q9i (o : Ob) : Pure Tryz.prog 161 [.agg (Ob.enc o)] (.int .u64 o.id) := by
  refine q2z (by kernel_rfl) (by simp only [go_sem, *]) (by simp only [go_sem, *]) Tryz.func161 Tryz.results161 rfl (by simp [Tryz.ntmps161]) (by kernel_rfl) ?_
  repeat' (first | (show q0z ..; first | refine q0d ?_ | refine q0p rfl ?_) | (show q1f ..; refine q0n rfl rfl ?_) | (show goOn ..; first | refine q0s ?_ | refine q0u ?_) | (show q0i ..; first | refine q0q ?_ | refine q0c ?_ | refine q0r ?_ | refine q0f ?_) | refine q0a ?_ | refine q0m ?_ | refine q0k ?_ | (show retQ ..; first | refine q0o ?_ | refine q0b ?_) | refine q0e ?_)
  all_goals rfl
end Go.Proofs.YteibeoipnjhicaaGreat
