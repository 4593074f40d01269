import Derived.Test.YtkajfadhlgmcjaaPBGet
import Derived.Test.YtkajfadhlgmcjaaPBx7
namespace Go.Proofs.Ytkajfadhlgmcjaa.PB
open Go Go.RowKit Go.Proofs.Ytkajfadhlgmcjaa Go.Proofs.YtkajfadhlgmcjaaW.PrintWords Go.Proofs.YtkajfadhlgmcjaaW.PrintLast Go.Proofs.YtkajfadhlgmcjaaW.PrintMore
set_option linter.unusedVariables false
set_option linter.unusedSimpArgs false
theorem labelPoints_pure (l0 l1 : List S46) (x : Int) : ∃ k, curtilagelaw02_LabelPoints.f k l0 l1 x = some true := by
  obtain ⟨a, rfl⟩ : ∃ a, l0 = ofLab a := ⟨toL l0, (ofLab_toL l0).symm⟩
  obtain ⟨b, rfl⟩ : ∃ a, l1 = ofLab a := ⟨toL l1, (ofLab_toL l1).symm⟩
  refine ⟨400, ?_⟩
  unfold curtilagelaw02_LabelPoints.f
  have hj0 : curtilagelaw02_LabelPoints.j0 400 (ofLab a) (ofLab b) x true = some true := by
    simp only [curtilagelaw02_LabelPoints.j0, curtilagelaw02_awake.f, if_true, Option.bind_some]
  rw [few2_f a b 400 (by omega), Option.bind_some]
  by_cases hf : fewB [a, b] = true
  · rw [if_pos hf]
    obtain ⟨na, nb⟩ := few2 hf
    rw [fit_f a (by omega) 400 (by omega), Option.bind_some]
    by_cases fa : FitL a
    · rw [if_pos (fitB_t fa), fit_f b (by omega) 400 (by omega), Option.bind_some]
      by_cases fb : FitL b
      · rw [fitB_t fb]
        have l1 := joinB_len a b
        have l2 := meetB_len a b
        have l3 := raiseB_len a
        have l4 := lowerB_len a
        have ra := getL_range fa x
        have h1 : curtilagelaw02_LabelPoints.j1 399 (ofLab a) x (getL a x) false = some true := by
          simp only [curtilagelaw02_LabelPoints.j1, curtilagelaw02_awake.f, Option.bind_some, raise_f a (by omega), lower_f a (by omega), get_f (raise_fit fa) (by omega), get_f (lower_fit fa) (by omega), raise_get fa, lower_get fa]
          by_cases e0 : getL a x = 0
          · rw [if_pos e0]; simp [e0]
          · by_cases e5 : getL a x = 5
            · simp [e5]
            · simp [e0, e5]
        have h2 : leqB a b = true → decide (getL a x > getL b x) = false := fun h => by
          have := (leqB_iff fa fb).1 h x
          exact decide_eq_false (by omega)
        simp only [curtilagelaw02_LabelPoints.j0, Option.bind_some, get_f fa (by omega), get_f fb (by omega), join_f a b (by omega) (by omega), meet_f a b (by omega) (by omega), get_f (join_fit fa fb) (by omega), get_f (meet_fit fa fb) (by omega), join_get fa fb, meet_get fa fb, mx_max, mn_min, leq_f a b (by omega) (by omega)]
        cases e : leqB a b with
        | false => simpa using h1
        | true => rw [h2 e]; simpa using h1
      · rw [fitB_f fb]; exact hj0
    · rw [if_neg (by rw [fitB_f fa]; simp)]; exact hj0
  · rw [if_neg hf]; exact hj0
end Go.Proofs.Ytkajfadhlgmcjaa.PB
