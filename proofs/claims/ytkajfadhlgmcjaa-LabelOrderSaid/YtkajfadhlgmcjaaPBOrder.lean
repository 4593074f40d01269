import Derived.Test.YtkajfadhlgmcjaaPBPure
import Derived.Test.YtkajfadhlgmcjaaPBx5
namespace Go.Proofs.Ytkajfadhlgmcjaa.PB
open Go Go.RowKit Go.Proofs.Ytkajfadhlgmcjaa Go.Proofs.YtkajfadhlgmcjaaW.PrintWords Go.Proofs.YtkajfadhlgmcjaaW.PrintLast Go.Proofs.YtkajfadhlgmcjaaW.PrintMore
set_option linter.unusedVariables false
set_option linter.unusedSimpArgs false
theorem labelOrder_pure (l0 l1 l2 : List S46) : ∃ k, curtilagelaw02_LabelOrder.f k l0 l1 l2 = some true := by
  obtain ⟨a, rfl⟩ : ∃ a, l0 = ofLab a := ⟨toL l0, (ofLab_toL l0).symm⟩
  obtain ⟨b, rfl⟩ : ∃ a, l1 = ofLab a := ⟨toL l1, (ofLab_toL l1).symm⟩
  obtain ⟨c, rfl⟩ : ∃ a, l2 = ofLab a := ⟨toL l2, (ofLab_toL l2).symm⟩
  refine ⟨100, ?_⟩
  unfold curtilagelaw02_LabelOrder.f
  have hj0 : curtilagelaw02_LabelOrder.j0 100 (ofLab a) (ofLab b) (ofLab c) true = some true := by
    simp only [curtilagelaw02_LabelOrder.j0, curtilagelaw02_awake.f, if_true, Option.bind_some]
  rw [few3_f a b c 100 (by omega), Option.bind_some]
  by_cases hf : fewB [a, b, c] = true
  · rw [if_pos hf]
    obtain ⟨na, nb, nc⟩ := few3 hf
    rw [fit_f a (by omega) 100 (by omega), Option.bind_some]
    by_cases fa : FitL a
    · rw [if_pos (fitB_t fa), fit_f b (by omega) 100 (by omega), Option.bind_some]
      by_cases fb : FitL b
      · rw [if_pos (fitB_t fb), fit_f c (by omega) 100 (by omega), Option.bind_some]
        by_cases fc : FitL c
        · rw [fitB_t fc]
          have hja := Nat.le_trans (joinB_len a b) (show a.length + b.length ≤ 80 by omega)
          have hma := Nat.le_trans (meetB_len a b) (show a.length + b.length ≤ 80 by omega)
          have h2 : curtilagelaw02_LabelOrder.j2 98 (ofLab a) (ofLab b) (ofLab c) (leqB b c) (ofLab (joinB a b)) (ofLab (meetB a b)) false = some true := by
            have x1 : leqB a c = true → leqB b c = true → leqB (joinB a b) c = true := join_least fa fb fc
            have x2 : leqB c a = true → leqB c b = true → leqB c (meetB a b) = true := meet_greatest fa fb fc
            simp only [curtilagelaw02_LabelOrder.j2, curtilagelaw02_awake.f, Option.bind_some, leq_f a c (by omega) (by omega), leq_f (joinB a b) c (by omega) (by omega), leq_f c a (by omega) (by omega), leq_f c b (by omega) (by omega), leq_f c (meetB a b) (by omega) (by omega)]
            cases e1 : leqB a c <;> cases e2 : leqB b c <;> cases e3 : leqB c a <;> cases e4 : leqB c b <;> simp_all
          have h1 : curtilagelaw02_LabelOrder.j1 99 (ofLab a) (ofLab b) (ofLab c) (leqB b c) false = some true := by
            simp only [curtilagelaw02_LabelOrder.j1, join_f a b (by omega) (by omega), meet_f a b (by omega) (by omega), Option.bind_some, leq_f a (joinB a b) (by omega) (by omega), leq_f b (joinB a b) (by omega) (by omega), leq_f (meetB a b) a (by omega) (by omega), leq_f (meetB a b) b (by omega) (by omega), (leq_join fa fb).1, (leq_join fa fb).2, (meet_leq fa fb).1, (meet_leq fa fb).2]
            simpa using h2
          have x1 : leqB a b = true → leqB b c = true → leqB a c = true := leq_trans fa fb fc
          have x2 : leqB a b = true → leqB b a = sameB a b := fun h => by
            by_cases e : a = b
            · rw [sameB_t e]; subst e; exact h
            · have : leqB b a = false := by
                cases hb : leqB b a with
                | false => rfl
                | true => exact absurd (leq_antisymm fa fb h hb) e
              rw [this]; unfold sameB; simp [e]
          simp only [curtilagelaw02_LabelOrder.j0, Option.bind_some, leq_f a b (by omega) (by omega), leq_f b a (by omega) (by omega), leq_f b c (by omega) (by omega), leq_f a a (by omega) (by omega), leq_f a c (by omega) (by omega), leq_refl fa, same_f a b (by omega) 99 (by omega)]
          cases e1 : leqB a b with
          | false => simpa using h1
          | true =>
            have e2 := x2 e1
            cases e3 : leqB b c with
            | false => rw [e3] at h1; simpa [e2, e3] using h1
            | true => rw [e3] at h1; simpa [e2, e3, x1 e1 e3] using h1
        · rw [fitB_f fc]; exact hj0
      · rw [if_neg (by rw [fitB_f fb]; simp)]; exact hj0
    · rw [if_neg (by rw [fitB_f fa]; simp)]; exact hj0
  · rw [if_neg hf]; exact hj0
end Go.Proofs.Ytkajfadhlgmcjaa.PB
