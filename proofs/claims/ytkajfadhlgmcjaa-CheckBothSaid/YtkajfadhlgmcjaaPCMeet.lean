import Derived.Test.YtkajfadhlgmcjaaPCRef
import Derived.Test.YtkajfadhlgmcjaaPCx9
import Derived.Test.YtkajfadhlgmcjaaPCx10
namespace Go.Proofs.Ytkajfadhlgmcjaa.PC
open Go Go.RowKit Go.Proofs.Ytkajfadhlgmcjaa Go.Proofs.YtkajfadhlgmcjaaW.PrintWords Go.Proofs.YtkajfadhlgmcjaaW.PrintLast Go.Proofs.YtkajfadhlgmcjaaW.PrintMore
set_option linter.unusedVariables false
set_option linter.unusedSimpArgs false
/-! The reference's meet of labels. -/
theorem r1meet (a b : Int) : curtilageref01_Meet.f a b = some (dnL a b) := by
  unfold curtilageref01_Meet.f dnL; rw [r1of, r1of]
  simp only [Option.bind_some]
  by_cases h : ofL a < ofL b
  · rw [if_pos h, if_pos (by omega)]
  · rw [if_neg h]
    by_cases h2 : ofL a ≤ ofL b
    · rw [if_pos h2]; congr 1; omega
    · rw [if_neg h2]
theorem rmeet_loop1 (a b : Lab) (fb : FitL b) (ha : a.length ≤ 400) (hb : b.length ≤ 400) : ∀ (d k i : Nat) (o : Lab), i + d = b.length → d + 2000 < k → o.length ≤ 400 + i →
    curtilageref02_Meet.l1 k (ofLab a) (ofLab b) (ofLab o) (i : Int) = some (ofLab (setAll (fun c => dnL (getL a c) (getL b c)) o ((b.drop i).map (·.1)))) := by
  intro d
  induction d with
  | zero =>
    intro k i o hi hk ho
    obtain ⟨k, rfl⟩ : ∃ m, k = m + 1 := ⟨k - 1, by omega⟩
    simp only [curtilageref02_Meet.l1, ofLab_len]
    rw [if_neg (by omega), List.drop_of_length_le (by omega)]
    rfl
  | succ d ih =>
    intro k i o hi hk ho
    obtain ⟨k, rfl⟩ : ∃ m, k = m + 1 := ⟨k - 1, by omega⟩
    have hil : i < b.length := by omega
    have hw := w64s i (by omega)
    have hol := setL_len o b[i].1 (dnL (getL a b[i].1) b[i].2)
    have hg : b[i].2 = getL b b[i].1 := (getL_mem fb.sorted (List.getElem_mem hil)).symm
    simp only [curtilageref02_Meet.l1, ofLab_len]
    rw [if_pos (by omega), if_pos (by omega), rd_ofLab b i hil]
    simp only []
    rw [rget_f a _ (by omega) k (by omega), Option.bind_some, r1meet, Option.bind_some, rwith_f o _ _ (by omega) k (by omega), Option.bind_some, hw]
    refine Eq.trans (ih k (i + 1) (setL o b[i].1 (dnL (getL a b[i].1) b[i].2)) (by omega) (by omega) (by omega)) ?_
    rw [List.drop_eq_getElem_cons hil, List.map_cons]
    conv => lhs; rw [hg]
    rfl
theorem rmeet_loop0 (a b : Lab) (fa : FitL a) (fb : FitL b) (ha : a.length ≤ 400) (hb : b.length ≤ 400) : ∀ (d k i : Nat) (o : Lab), i + d = a.length → d + 3000 < k → o.length ≤ a.length + i →
    (∀ hz : a.length + a.length ≤ 400, curtilageref02_Meet.l0 k (ofLab a) (ofLab b) (ofLab o) (i : Int) = some (ofLab (setAll (fun c => dnL (getL a c) (getL b c)) (setAll (fun c => dnL (getL a c) (getL b c)) o ((a.drop i).map (·.1))) (b.map (·.1))))) := by
  intro d
  induction d with
  | zero =>
    intro k i o hi hk ho hz
    obtain ⟨k, rfl⟩ : ∃ m, k = m + 1 := ⟨k - 1, by omega⟩
    simp only [curtilageref02_Meet.l0, ofLab_len]
    rw [if_neg (by omega), List.drop_of_length_le (by omega)]
    have := rmeet_loop1 a b fb ha hb b.length k 0 o (by omega) (by omega) (by omega)
    rw [List.drop_zero] at this
    exact this
  | succ d ih =>
    intro k i o hi hk ho hz
    obtain ⟨k, rfl⟩ : ∃ m, k = m + 1 := ⟨k - 1, by omega⟩
    have hil : i < a.length := by omega
    have hw := w64s i (by omega)
    have hol := setL_len o a[i].1 (dnL a[i].2 (getL b a[i].1))
    have hg : a[i].2 = getL a a[i].1 := (getL_mem fa.sorted (List.getElem_mem hil)).symm
    simp only [curtilageref02_Meet.l0, ofLab_len]
    rw [if_pos (by omega), if_pos (by omega), rd_ofLab a i hil]
    simp only []
    rw [rget_f b _ (by omega) k (by omega), Option.bind_some, r1meet, Option.bind_some, rwith_f o _ _ (by omega) k (by omega), Option.bind_some, hw]
    refine Eq.trans (ih k (i + 1) (setL o a[i].1 (dnL a[i].2 (getL b a[i].1))) (by omega) (by omega) (by omega) hz) ?_
    rw [List.drop_eq_getElem_cons hil, List.map_cons]
    conv => lhs; rw [hg]
    rfl
theorem rmeet_f {a b : Lab} (fa : FitL a) (fb : FitL b) (ha : a.length ≤ 200) (hb : b.length ≤ 200) (k : Nat) (hk : 4000 ≤ k) : curtilageref02_Meet.f k (ofLab a) (ofLab b) = some (ofLab (meetB a b)) := by
  have := rmeet_loop0 a b fa fb (by omega) (by omega) a.length k 0 a (by omega) (by omega) (by omega) (by omega)
  rw [List.drop_zero] at this
  unfold curtilageref02_Meet.f
  refine Eq.trans this ?_
  have hv : ∀ c, 0 ≤ dnL (getL a c) (getL b c) ∧ dnL (getL a c) (getL b c) ≤ 5 := fun c => dnL_range _ _
  rw [lab_ext (setAll_fit hv _ (setAll_fit hv _ fa)) (meet_fit fa fb) (fun c => by
    rw [setAll_both (F := dnL) rfl fa fb, meet_get fa fb]
    unfold dnL
    rw [ofL_get fa, ofL_get fb]
    split <;> omega)]
end Go.Proofs.Ytkajfadhlgmcjaa.PC
