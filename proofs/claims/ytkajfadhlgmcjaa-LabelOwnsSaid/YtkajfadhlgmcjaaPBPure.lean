import Derived.Test.YtkajfadhlgmcjaaPBx3
import Derived.Test.YtkajfadhlgmcjaaPBx4
import Derived.Test.YtkajfadhlgmcjaaPBx4
import Derived.Test.YtkajfadhlgmcjaaPBx4
import Derived.Test.YtkajfadhlgmcjaaPBx4
import Derived.Test.YtkajfadhlgmcjaaPBx2
namespace Go.Proofs.Ytkajfadhlgmcjaa.PB
open Go Go.RowKit Go.Proofs.Ytkajfadhlgmcjaa Go.Proofs.YtkajfadhlgmcjaaW.PrintWords Go.Proofs.YtkajfadhlgmcjaaW.PrintLast Go.Proofs.YtkajfadhlgmcjaaW.PrintMore
set_option linter.unusedVariables false
set_option linter.unusedSimpArgs false
/-! What the printed functions of chapter 2 say of labels. -/
theorem joinB_len (a b : Lab) : (joinB a b).length ≤ a.length + b.length := foldB_len _ _ _
theorem meetB_len (a b : Lab) : (meetB a b).length ≤ a.length + b.length := foldB_len _ _ _
theorem raiseB_len (a : Lab) : (raiseB a).length ≤ a.length := foldB_len _ _ _
theorem lowerB_len (a : Lab) : (lowerB a).length ≤ a.length := foldB_len _ _ _
theorem rd_ofLab (l : Lab) (i : Nat) (h : i < l.length) : rd_T46 (ofLab l) (i : Int) = ⟨l[i].1, l[i].2⟩ := by
  unfold rd_T46 ofLab
  simp [h]
theorem w64 {x : Int} (h : 0 ≤ x ∧ x < 9223372036854775808) : wrap64 x = x := by unfold wrap64; omega
theorem w64s (i : Nat) (h : i < 1000000000) : wrap64 ((i : Int) + 1) = ((i + 1 : Nat) : Int) := by rw [w64 (by omega)]; omega
/-- A pair that may stand there. -/
def pairOk (l : Lab) (i : Nat) : Prop := ∀ h : i < l.length, 0 ≤ l[i].2 ∧ l[i].2 ≤ 5 ∧ l[i].2 ≠ 2 ∧ ∀ h0 : 0 < i, l[i - 1].1 < l[i].1
open Classical in
noncomputable def fitB (l : Lab) : Bool := decide (FitL l)
theorem fit_iff {l : Lab} : FitL l ↔ ∀ i, pairOk l i := by
  constructor
  · intro h i hi
    have hl := h.lev l[i] (List.getElem_mem hi)
    exact ⟨hl.1, hl.2.1, hl.2.2, fun h0 => sorted_iff.2 h.sorted (i - 1) i (by omega) hi (by omega)⟩
  · intro h
    refine ⟨sorted_iff.1 ?_, fun p hp => ?_⟩
    · intro i j hi hj hij
      induction j with
      | zero => omega
      | succ j ih =>
        have h1 := (h (j + 1) hj).2.2.2 (by omega)
        simp only [Nat.add_sub_cancel] at h1
        by_cases he : i = j
        · subst he; exact h1
        · exact Int.lt_trans (ih (by omega) (by omega)) h1
    · obtain ⟨i, hi, rfl⟩ := List.getElem_of_mem hp
      have := h i hi
      exact ⟨this.1, this.2.1, this.2.2.1⟩
theorem r1fit (a : Int) : curtilageref01_Fit.f a = some (decide (0 ≤ a ∧ a ≤ 5)) := by
  unfold curtilageref01_Fit.f
  by_cases h1 : a ≥ 0
  · by_cases h2 : a ≤ 5 <;> simp [h1, h2]
  · simp [h1]
open Classical in
theorem fit_loop (l : Lab) (hlen : l.length ≤ 1000000) : ∀ (d k i : Nat), i + d = l.length → d < k → curtilageref02_Fit.l0 k (ofLab l) (i : Int) = some (decide (∀ j, i ≤ j → pairOk l j)) := by
  intro d
  induction d with
  | zero =>
    intro k i hi hk
    obtain ⟨k, rfl⟩ : ∃ m, k = m + 1 := ⟨k - 1, by omega⟩
    simp only [curtilageref02_Fit.l0, ofLab_len]
    rw [if_neg (by omega)]
    congr 1; symm
    exact decide_eq_true fun j hj hjl => by omega
  | succ d ih =>
    intro k i hi hk
    obtain ⟨k, rfl⟩ : ∃ m, k = m + 1 := ⟨k - 1, by omega⟩
    have hil : i < l.length := by omega
    have ih' := ih k (i + 1) (by omega) (by omega)
    have hw := w64s i (by omega)
    simp only [curtilageref02_Fit.l0, ofLab_len]
    rw [if_pos (by omega), if_pos (by omega), rd_ofLab l i hil, r1fit]
    simp only [Option.bind_some, hw, ih']
    have hsplit : (∀ j, i ≤ j → pairOk l j) ↔ (pairOk l i ∧ ∀ j, i + 1 ≤ j → pairOk l j) :=
      ⟨fun h => ⟨h i (Nat.le_refl _), fun j hj => h j (by omega)⟩, fun ⟨h1, h2⟩ j hj => by
        by_cases he : j = i
        · subst he; exact h1
        · exact h2 j (by omega)⟩
    by_cases h1 : 0 ≤ l[i].2 ∧ l[i].2 ≤ 5
    · rw [if_pos (by simpa using h1)]
      by_cases h2 : l[i].2 = 2
      · rw [if_pos h2]
        congr 1; symm
        exact decide_eq_false fun h => ((hsplit.1 h).1 hil).2.2.1 h2
      · rw [if_neg h2]
        by_cases h3 : 0 < i
        · have hw2 : wrap64 ((i : Int) - 1) = ((i - 1 : Nat) : Int) := by rw [w64 (by omega)]; omega
          rw [if_pos (by omega), hw2, if_pos (by omega), if_pos (by omega), rd_ofLab l (i - 1) (by omega)]
          by_cases h4 : l[i - 1].1 ≥ l[i].1
          · rw [if_pos h4]
            congr 1; symm
            refine decide_eq_false fun h => ?_
            have := ((hsplit.1 h).1 hil).2.2.2 h3
            omega
          · rw [if_neg h4]
            congr 1
            refine decide_eq_decide.2 ⟨fun h => hsplit.2 ⟨fun _ => ⟨h1.1, h1.2, h2, fun _ => by omega⟩, h⟩, fun h => (hsplit.1 h).2⟩
        · rw [if_neg (by omega)]
          congr 1
          refine decide_eq_decide.2 ⟨fun h => hsplit.2 ⟨fun _ => ⟨h1.1, h1.2, h2, fun h0 => absurd h0 h3⟩, h⟩, fun h => (hsplit.1 h).2⟩
    · rw [if_neg (by simpa using h1)]
      congr 1; symm
      refine decide_eq_false fun h => ?_
      have := (hsplit.1 h).1 hil
      exact h1 ⟨this.1, this.2.1⟩
theorem fit_f (l : Lab) (hlen : l.length ≤ 1000) (k : Nat) (hk : l.length < k) : curtilageref02_Fit.f k (ofLab l) = some (fitB l) := by
  have := fit_loop l (by omega) l.length k 0 (by omega) hk
  unfold curtilageref02_Fit.f
  refine Eq.trans this ?_
  congr 1
  unfold fitB
  exact decide_eq_decide.2 ⟨fun h => fit_iff.2 fun i => h i (Nat.zero_le _), fun h j _ => fit_iff.1 h j⟩
theorem fitB_t {l : Lab} (h : FitL l) : fitB l = true := by unfold fitB; simp [h]
theorem fitB_f {l : Lab} (h : ¬ FitL l) : fitB l = false := by unfold fitB; simp [h]
open Classical in
noncomputable def sameB (a b : Lab) : Bool := decide (a = b)
theorem sameB_t {a b : Lab} (h : a = b) : sameB a b = true := by unfold sameB; simp [h]
open Classical in
theorem same_loop (a b : Lab) (he : a.length = b.length) (hlen : a.length ≤ 1000000) : ∀ (d k i : Nat), i + d = a.length → d < k → curtilageref02_Same.l0 k (ofLab a) (ofLab b) (i : Int) = some (decide (a.drop i = b.drop i)) := by
  intro d
  induction d with
  | zero =>
    intro k i hi hk
    obtain ⟨k, rfl⟩ : ∃ m, k = m + 1 := ⟨k - 1, by omega⟩
    simp only [curtilageref02_Same.l0, ofLab_len]
    rw [if_neg (by omega)]
    congr 1; symm
    exact decide_eq_true (by rw [List.drop_of_length_le (by omega), List.drop_of_length_le (by omega)])
  | succ d ih =>
    intro k i hi hk
    obtain ⟨k, rfl⟩ : ∃ m, k = m + 1 := ⟨k - 1, by omega⟩
    have ha : i < a.length := by omega
    have hb : i < b.length := by omega
    have ih' := ih k (i + 1) (by omega) (by omega)
    have hw := w64s i (by omega)
    simp only [curtilageref02_Same.l0, ofLab_len]
    rw [if_pos (by omega), if_pos (by omega), if_pos (by omega), rd_ofLab a i ha, rd_ofLab b i hb, hw, ih']
    rw [List.drop_eq_getElem_cons ha, List.drop_eq_getElem_cons hb]
    by_cases h1 : a[i] = b[i]
    · rw [if_neg (by simp [h1])]
      congr 1
      exact decide_eq_decide.2 ⟨fun h => by rw [h1, h], fun h => (List.cons.inj h).2⟩
    · rw [if_pos (by
        by_cases hx : a[i].1 = b[i].1
        · have hy : a[i].2 ≠ b[i].2 := fun hy => h1 (Prod.ext hx hy)
          simp [hx, hy]
        · simp [hx])]
      congr 1; symm
      exact decide_eq_false fun h => h1 (List.cons.inj h).1
theorem same_f (a b : Lab) (hlen : a.length ≤ 1000) (k : Nat) (hk : a.length < k) : curtilageref02_Same.f k (ofLab a) (ofLab b) = some (sameB a b) := by
  unfold curtilageref02_Same.f
  rw [ofLab_len, ofLab_len]
  by_cases he : a.length = b.length
  · rw [if_pos (by omega)]
    have := same_loop a b he (by omega) a.length k 0 (by omega) hk
    simp only [List.drop_zero] at this
    exact this
  · rw [if_neg (by omega)]
    congr 1; symm
    unfold sameB
    exact decide_eq_false fun h => he (by rw [h])
theorem leq_f (a b : Lab) (ha : a.length ≤ 1000) (hb : b.length ≤ 1000) : label_Leq.f (ofLab a) (ofLab b) = some (leqB a b) := by
  unfold label_Leq.f; rw [ofLab_len, ofLab_len, toL_ofLab, toL_ofLab, if_pos (by omega)]
theorem join_f (a b : Lab) (ha : a.length ≤ 1000) (hb : b.length ≤ 1000) : label_Join.f (ofLab a) (ofLab b) = some (ofLab (joinB a b)) := by
  unfold label_Join.f; rw [ofLab_len, ofLab_len, toL_ofLab, toL_ofLab, if_pos (by omega)]
theorem meet_f (a b : Lab) (ha : a.length ≤ 1000) (hb : b.length ≤ 1000) : label_Meet.f (ofLab a) (ofLab b) = some (ofLab (meetB a b)) := by
  unfold label_Meet.f; rw [ofLab_len, ofLab_len, toL_ofLab, toL_ofLab, if_pos (by omega)]
theorem leq_iff {a b : Lab} (ha : FitL a) (hb : FitL b) : leqB a b = true ↔ ∀ c, getL a c ≤ getL b c := leqB_iff ha hb
theorem leq_refl {a : Lab} (ha : FitL a) : leqB a a = true := (leqB_iff ha ha).2 fun _ => Int.le_refl _
theorem leq_trans {a b c : Lab} (ha : FitL a) (hb : FitL b) (hc : FitL c) (h1 : leqB a b = true) (h2 : leqB b c = true) : leqB a c = true :=
  (leqB_iff ha hc).2 fun x => Int.le_trans ((leqB_iff ha hb).1 h1 x) ((leqB_iff hb hc).1 h2 x)
theorem leq_antisymm {a b : Lab} (ha : FitL a) (hb : FitL b) (h1 : leqB a b = true) (h2 : leqB b a = true) : a = b :=
  lab_ext ha hb fun c => Int.le_antisymm ((leqB_iff ha hb).1 h1 c) ((leqB_iff hb ha).1 h2 c)
theorem leq_join {a b : Lab} (ha : FitL a) (hb : FitL b) : leqB a (joinB a b) = true ∧ leqB b (joinB a b) = true :=
  ⟨(leqB_iff ha (join_fit ha hb)).2 fun c => by rw [join_get ha hb]; omega, (leqB_iff hb (join_fit ha hb)).2 fun c => by rw [join_get ha hb]; omega⟩
theorem meet_leq {a b : Lab} (ha : FitL a) (hb : FitL b) : leqB (meetB a b) a = true ∧ leqB (meetB a b) b = true :=
  ⟨(leqB_iff (meet_fit ha hb) ha).2 fun c => by rw [meet_get ha hb]; omega, (leqB_iff (meet_fit ha hb) hb).2 fun c => by rw [meet_get ha hb]; omega⟩
theorem join_least {a b c : Lab} (ha : FitL a) (hb : FitL b) (hc : FitL c) (h1 : leqB a c = true) (h2 : leqB b c = true) : leqB (joinB a b) c = true :=
  (leqB_iff (join_fit ha hb) hc).2 fun x => by
    have := (leqB_iff ha hc).1 h1 x
    have := (leqB_iff hb hc).1 h2 x
    rw [join_get ha hb]; omega
theorem meet_greatest {a b c : Lab} (ha : FitL a) (hb : FitL b) (hc : FitL c) (h1 : leqB c a = true) (h2 : leqB c b = true) : leqB c (meetB a b) = true :=
  (leqB_iff hc (meet_fit ha hb)).2 fun x => by
    have := (leqB_iff hc ha).1 h1 x
    have := (leqB_iff hc hb).1 h2 x
    rw [meet_get ha hb]; omega
def fewB (ls : List Lab) : Bool := ls.all (fun l => decide (l.length ≤ 40))
theorem rd_L (ls : List Lab) (i : Nat) (h : i < ls.length) : rd_L3 (ls.map ofLab) (i : Int) = ofLab ls[i] := by
  unfold rd_L3
  simp [h]
theorem few_loop (ls : List Lab) (hn : ls.length ≤ 100) : ∀ (d k i : Nat), i + d = ls.length → d < k → curtilagelaw02_few.l0 k (ls.map ofLab) (ls.length : Int) (i : Int) = some (fewB (ls.drop i)) := by
  intro d
  induction d with
  | zero =>
    intro k i hi hk
    obtain ⟨k, rfl⟩ : ∃ m, k = m + 1 := ⟨k - 1, by omega⟩
    simp only [curtilagelaw02_few.l0]
    rw [if_neg (by omega), List.drop_of_length_le (by omega)]
    rfl
  | succ d ih =>
    intro k i hi hk
    obtain ⟨k, rfl⟩ : ∃ m, k = m + 1 := ⟨k - 1, by omega⟩
    have hil : i < ls.length := by omega
    have ih' := ih k (i + 1) (by omega) (by omega)
    have hw := w64s i (by omega)
    simp only [curtilagelaw02_few.l0]
    rw [if_pos (by omega), if_pos (by omega), if_pos (by rw [List.length_map]; omega), rd_L _ i hil, hw, ih', ofLab_len, List.drop_eq_getElem_cons hil]
    have e : fewB (ls[i] :: ls.drop (i + 1)) = (decide (ls[i].length ≤ 40) && fewB (ls.drop (i + 1))) := rfl
    rw [e]
    by_cases h1 : ls[i].length ≤ 40
    · rw [if_neg (by omega), decide_eq_true h1, Bool.true_and]
    · rw [if_pos (by omega), decide_eq_false h1, Bool.false_and]
theorem few_f (ls : List Lab) (hn : ls.length ≤ 100) (k : Nat) (hk : ls.length < k) : curtilagelaw02_few.f k (ls.map ofLab) = some (fewB ls) := by
  have := few_loop ls hn ls.length k 0 (by omega) hk
  unfold curtilagelaw02_few.f
  rw [List.length_map]
  exact this
theorem few3_f (a b c : Lab) (k : Nat) (hk : 3 < k) : curtilagelaw02_few.f k [ofLab a, ofLab b, ofLab c] = some (fewB [a, b, c]) := few_f [a, b, c] (by simp) k hk
theorem few2_f (a b : Lab) (k : Nat) (hk : 2 < k) : curtilagelaw02_few.f k [ofLab a, ofLab b] = some (fewB [a, b]) := few_f [a, b] (by simp) k hk
theorem few3 {a b c : Lab} (h : fewB [a, b, c] = true) : a.length ≤ 40 ∧ b.length ≤ 40 ∧ c.length ≤ 40 := by simpa [fewB] using h
theorem few2 {a b : Lab} (h : fewB [a, b] = true) : a.length ≤ 40 ∧ b.length ≤ 40 := by simpa [fewB] using h
end Go.Proofs.Ytkajfadhlgmcjaa.PB
