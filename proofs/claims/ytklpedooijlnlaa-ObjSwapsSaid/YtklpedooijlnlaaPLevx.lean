-- PRINTED by print.py (a twelfth state) out of the translation. Not trusted: Lean checks it.
import Derived.Test.YtklpedooijlnlaaPLevx0
import Derived.Test.YtklpedooijlnlaaPLevx1
namespace Go.Proofs.Ytklpedooijlnlaa.PLev
open Go.RowKit Go.Proofs.YtklpedooijlnlaaW.PrintWords Go.Proofs.YtklpedooijlnlaaW.PrintLast Go.Proofs.YtklpedooijlnlaaW.PrintMore
attribute [local go_sem] max2_int min2_int max_two min_two max_three min_three max_four min_four   -- for this text's walks alone
set_option linter.unusedVariables false
set_option linter.unusedSimpArgs false

end Go.Proofs.Ytklpedooijlnlaa.PLev
