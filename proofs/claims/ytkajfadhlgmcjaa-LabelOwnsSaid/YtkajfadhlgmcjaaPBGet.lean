import Derived.Test.YtkajfadhlgmcjaaPBPure
import Derived.Test.YtkajfadhlgmcjaaPBx7
import Derived.Test.YtkajfadhlgmcjaaPBx7
import Derived.Test.YtkajfadhlgmcjaaPBx7
namespace Go.Proofs.Ytkajfadhlgmcjaa.PB
open Go Go.RowKit Go.Proofs.Ytkajfadhlgmcjaa Go.Proofs.YtkajfadhlgmcjaaW.PrintWords Go.Proofs.YtkajfadhlgmcjaaW.PrintLast Go.Proofs.YtkajfadhlgmcjaaW.PrintMore
set_option linter.unusedVariables false
set_option linter.unusedSimpArgs false
theorem get_f {a : Lab} (fa : FitL a) (ha : a.length ≤ 1000) (c : Int) : label_Get.f (ofLab a) c = some (getL a c) := by
  unfold label_Get.f; rw [ofLab_len, toL_ofLab, if_pos ⟨sortB_of fa.sorted, by omega⟩]
theorem raise_f (a : Lab) (ha : a.length ≤ 1000) : label_Raise.f (ofLab a) = some (ofLab (raiseB a)) := by
  unfold label_Raise.f; rw [ofLab_len, toL_ofLab, if_pos (by omega)]
theorem lower_f (a : Lab) (ha : a.length ≤ 1000) : label_Lower.f (ofLab a) = some (ofLab (lowerB a)) := by
  unfold label_Lower.f; rw [ofLab_len, toL_ofLab, if_pos (by omega)]
theorem mx_max (a b : Int) : mx a b = max a b := by unfold mx; split <;> omega
theorem mn_min (a b : Int) : mn a b = min a b := by unfold mn; split <;> omega
end Go.Proofs.Ytkajfadhlgmcjaa.PB
