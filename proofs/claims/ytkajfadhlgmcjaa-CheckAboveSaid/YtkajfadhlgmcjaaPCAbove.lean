import Derived.Test.YtkajfadhlgmcjaaPCLaw
import Derived.Test.YtkajfadhlgmcjaaPCx5
namespace Go.Proofs.Ytkajfadhlgmcjaa.PC
open Go Go.RowKit Go.Proofs.Ytkajfadhlgmcjaa Go.Proofs.YtkajfadhlgmcjaaW.PrintWords Go.Proofs.YtkajfadhlgmcjaaW.PrintLast Go.Proofs.YtkajfadhlgmcjaaW.PrintMore
set_option linter.unusedVariables false
set_option linter.unusedSimpArgs false
set_option maxRecDepth 100000 in
theorem checkAbove_pure (l0 l1 l2 l3 : List S46) : ∃ k, curtilagelaw03_CheckAbove.f k l0 l1 l2 l3 = some true := by
  obtain ⟨t, rfl⟩ : ∃ a, l0 = ofLab a := ⟨toL l0, (ofLab_toL l0).symm⟩
  obtain ⟨v, rfl⟩ : ∃ a, l1 = ofLab a := ⟨toL l1, (ofLab_toL l1).symm⟩
  obtain ⟨m, rfl⟩ : ∃ a, l2 = ofLab a := ⟨toL l2, (ofLab_toL l2).symm⟩
  obtain ⟨o, rfl⟩ : ∃ a, l3 = ofLab a := ⟨toL l3, (ofLab_toL l3).symm⟩
  refine ⟨10000, ?_⟩
  unfold curtilagelaw03_CheckAbove.f
  have hfit := fit3_f [t, v, m, o] (by simp) 10000 (by omega)
  simp only [List.map_cons, List.map_nil] at hfit
  rw [hfit, Option.bind_some]
  by_cases hf : fit3B [t, v, m, o] = true
  · rw [if_pos hf]
    have hall := fit3_all hf
    obtain ⟨nt, ft⟩ := hall t (by simp)
    have ntr := raiseB_len t
    obtain ⟨nv, fv⟩ := hall v (by simp)
    have nvr := raiseB_len v
    obtain ⟨nm, fm⟩ := hall m (by simp)
    have nmr := raiseB_len m
    obtain ⟨no, fo⟩ := hall o (by simp)
    have nor := raiseB_len o
    clear hall hfit hf
    have hS : (((hidesB t v).length : Int) == 0) = leqB (raiseB t) v := by rw [len0, Bool.eq_iff_iff, decide_eq_true_eq, hidesB_nil ft fv]
    have hj : curtilagelaw03_CheckAbove.j0 10000 (ofLab t) (ofLab v) (ofLab o) (leqB (raiseB t) v) false = some true := by
      simp only [curtilagelaw03_CheckAbove.j0, modify_f t o (by omega) (by omega), observe_f t o (by omega) (by omega), rraise_f ft (by omega) 9999 (by omega), rleq_f (raise_fit ft) fv (by omega) (by omega) 9999 (by omega), awake_f, Option.bind_some]
      cases leqB t o <;> cases leqB o (raiseB t) <;> simp
    rw [hides_f ft fv (by omega) (by omega), Option.bind_some, hS]
    by_cases h : hidesB t v = []
    · rw [if_pos ((len0' _).2 h)]
      have h1 := (hidesB_nil ft fv).1 h
      have x1 : leqB o (raiseB t) = true → leqB o v = true := fun h2 => leq_trans fo (raise_fit ft) fv h2 h1
      have x2 : leqB v m = true → decide (((hidesB t m).length : Int) > 0) = false := fun h2 => by
        rw [lenpos, (hidesB_nil ft fm).2 (leq_trans (raise_fit ft) fv fm h1 h2)]; rfl
      simp only [observe_f t o (by omega) (by omega), rleq_f fo fv (by omega) (by omega) 10000 (by omega), rleq_f fv fm (by omega) (by omega) 10000 (by omega), hides_f ft fm (by omega) (by omega), Option.bind_some]
      cases e1 : leqB o (raiseB t) with
      | true =>
        rw [if_pos rfl, x1 e1, if_pos rfl]
        cases e2 : leqB v m with
        | true => rw [if_pos rfl, x2 e2]; exact hj
        | false => rw [if_neg (by simp)]; exact hj
      | false =>
        rw [if_neg (by simp)]
        cases e2 : leqB v m with
        | true => rw [if_pos rfl, x2 e2]; exact hj
        | false => rw [if_neg (by simp)]; exact hj
    · rw [if_neg (fun hh => h ((len0' _).1 hh))]; exact hj
  · rw [if_neg hf, awake_f]; rfl
end Go.Proofs.Ytkajfadhlgmcjaa.PC
