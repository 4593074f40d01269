import Derived.Test.YtkajfadhlgmcjaaPBPure
import Derived.Test.YtkajfadhlgmcjaaPBx6
namespace Go.Proofs.Ytkajfadhlgmcjaa.PB
open Go Go.RowKit Go.Proofs.Ytkajfadhlgmcjaa Go.Proofs.YtkajfadhlgmcjaaW.PrintWords Go.Proofs.YtkajfadhlgmcjaaW.PrintLast Go.Proofs.YtkajfadhlgmcjaaW.PrintMore
set_option linter.unusedVariables false
set_option linter.unusedSimpArgs false
theorem join_comm {a b : Lab} (ha : FitL a) (hb : FitL b) : joinB a b = joinB b a := lab_ext (join_fit ha hb) (join_fit hb ha) fun c => by rw [join_get ha hb, join_get hb ha]; omega
theorem meet_comm {a b : Lab} (ha : FitL a) (hb : FitL b) : meetB a b = meetB b a := lab_ext (meet_fit ha hb) (meet_fit hb ha) fun c => by rw [meet_get ha hb, meet_get hb ha]; omega
theorem join_idem {a : Lab} (ha : FitL a) : joinB a a = a := lab_ext (join_fit ha ha) ha fun c => by rw [join_get ha ha]; omega
theorem meet_idem {a : Lab} (ha : FitL a) : meetB a a = a := lab_ext (meet_fit ha ha) ha fun c => by rw [meet_get ha ha]; omega
theorem join_assoc {a b c : Lab} (ha : FitL a) (hb : FitL b) (hc : FitL c) : joinB a (joinB b c) = joinB (joinB a b) c :=
  lab_ext (join_fit ha (join_fit hb hc)) (join_fit (join_fit ha hb) hc) fun x => by rw [join_get ha (join_fit hb hc), join_get hb hc, join_get (join_fit ha hb) hc, join_get ha hb]; omega
theorem meet_assoc {a b c : Lab} (ha : FitL a) (hb : FitL b) (hc : FitL c) : meetB a (meetB b c) = meetB (meetB a b) c :=
  lab_ext (meet_fit ha (meet_fit hb hc)) (meet_fit (meet_fit ha hb) hc) fun x => by rw [meet_get ha (meet_fit hb hc), meet_get hb hc, meet_get (meet_fit ha hb) hc, meet_get ha hb]; omega
theorem meet_join {a b c : Lab} (ha : FitL a) (hb : FitL b) (hc : FitL c) : meetB a (joinB b c) = joinB (meetB a b) (meetB a c) :=
  lab_ext (meet_fit ha (join_fit hb hc)) (join_fit (meet_fit ha hb) (meet_fit ha hc)) fun x => by rw [meet_get ha (join_fit hb hc), join_get hb hc, join_get (meet_fit ha hb) (meet_fit ha hc), meet_get ha hb, meet_get ha hc]; omega
theorem join_meet {a b : Lab} (ha : FitL a) (hb : FitL b) : joinB a (meetB a b) = a :=
  lab_ext (join_fit ha (meet_fit ha hb)) ha fun x => by rw [join_get ha (meet_fit ha hb), meet_get ha hb]; omega
theorem labelSpreads_pure (l0 l1 l2 : List S46) : ∃ k, curtilagelaw02_LabelSpreads.f k l0 l1 l2 = some true := by
  obtain ⟨a, rfl⟩ : ∃ a, l0 = ofLab a := ⟨toL l0, (ofLab_toL l0).symm⟩
  obtain ⟨b, rfl⟩ : ∃ a, l1 = ofLab a := ⟨toL l1, (ofLab_toL l1).symm⟩
  obtain ⟨c, rfl⟩ : ∃ a, l2 = ofLab a := ⟨toL l2, (ofLab_toL l2).symm⟩
  refine ⟨400, ?_⟩
  unfold curtilagelaw02_LabelSpreads.f
  have hj0 : curtilagelaw02_LabelSpreads.j0 400 (ofLab a) (ofLab b) (ofLab c) true = some true := by
    simp only [curtilagelaw02_LabelSpreads.j0, curtilagelaw02_awake.f, if_true, Option.bind_some]
  rw [few3_f a b c 400 (by omega), Option.bind_some]
  by_cases hf : fewB [a, b, c] = true
  · rw [if_pos hf]
    obtain ⟨na, nb, nc⟩ := few3 hf
    rw [fit_f a (by omega) 400 (by omega), Option.bind_some]
    by_cases fa : FitL a
    · rw [if_pos (fitB_t fa), fit_f b (by omega) 400 (by omega), Option.bind_some]
      by_cases fb : FitL b
      · rw [if_pos (fitB_t fb), fit_f c (by omega) 400 (by omega), Option.bind_some]
        by_cases fc : FitL c
        · rw [fitB_t fc]
          have l1 := joinB_len a b
          have l2 := joinB_len b a
          have l3 := meetB_len a b
          have l4 := meetB_len b a
          have l5 := joinB_len a a
          have l6 := meetB_len a a
          have l7 := joinB_len b c
          have l8 := joinB_len a (joinB b c)
          have l9 := joinB_len (joinB a b) c
          have l10 := meetB_len b c
          have l11 := meetB_len a (meetB b c)
          have l12 := meetB_len (meetB a b) c
          have l13 := meetB_len a (joinB b c)
          have l14 := meetB_len a c
          have l15 := joinB_len (meetB a b) (meetB a c)
          have l16 := joinB_len a (meetB a b)
          have h2 : curtilagelaw02_LabelSpreads.j2 398 (ofLab a) (ofLab b) (ofLab c) false = some true := by
            simp only [curtilagelaw02_LabelSpreads.j2, curtilagelaw02_awake.f, Option.bind_some, join_f b c (by omega) (by omega), meet_f a (joinB b c) (by omega) (by omega), meet_f a b (by omega) (by omega), meet_f a c (by omega) (by omega), join_f (meetB a b) (meetB a c) (by omega) (by omega), join_f a (meetB a b) (by omega) (by omega),
              same_f (meetB a (joinB b c)) (joinB (meetB a b) (meetB a c)) (by omega) 397 (by omega), same_f (joinB a (meetB a b)) a (by omega) 397 (by omega), sameB_t (meet_join fa fb fc), sameB_t (join_meet fa fb)]
            rfl
          have h1 : curtilagelaw02_LabelSpreads.j1 399 (ofLab a) (ofLab b) (ofLab c) false = some true := by
            simp only [curtilagelaw02_LabelSpreads.j1, Option.bind_some, join_f b c (by omega) (by omega), join_f a (joinB b c) (by omega) (by omega), join_f a b (by omega) (by omega), join_f (joinB a b) c (by omega) (by omega), same_f (joinB a (joinB b c)) (joinB (joinB a b) c) (by omega) 398 (by omega), sameB_t (join_assoc fa fb fc),
              meet_f b c (by omega) (by omega), meet_f a (meetB b c) (by omega) (by omega), meet_f a b (by omega) (by omega), meet_f (meetB a b) c (by omega) (by omega), same_f (meetB a (meetB b c)) (meetB (meetB a b) c) (by omega) 398 (by omega), sameB_t (meet_assoc fa fb fc)]
            simpa using h2
          simp only [curtilagelaw02_LabelSpreads.j0, Option.bind_some, join_f a b (by omega) (by omega), join_f b a (by omega) (by omega), same_f (joinB a b) (joinB b a) (by omega) 399 (by omega), sameB_t (join_comm fa fb), meet_f a b (by omega) (by omega), meet_f b a (by omega) (by omega), same_f (meetB a b) (meetB b a) (by omega) 399 (by omega), sameB_t (meet_comm fa fb),
            join_f a a (by omega) (by omega), same_f (joinB a a) a (by omega) 399 (by omega), sameB_t (join_idem fa), meet_f a a (by omega) (by omega), same_f (meetB a a) a (by omega) 399 (by omega), sameB_t (meet_idem fa)]
          simpa using h1
        · rw [fitB_f fc]; exact hj0
      · rw [if_neg (by rw [fitB_f fb]; simp)]; exact hj0
    · rw [if_neg (by rw [fitB_f fa]; simp)]; exact hj0
  · rw [if_neg hf]; exact hj0
end Go.Proofs.Ytkajfadhlgmcjaa.PB
