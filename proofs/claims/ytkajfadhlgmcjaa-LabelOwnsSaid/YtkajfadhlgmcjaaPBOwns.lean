import Derived.Test.YtkajfadhlgmcjaaPBGet
import Derived.Test.YtkajfadhlgmcjaaPBx9
import Derived.Test.YtkajfadhlgmcjaaPBx10
namespace Go.Proofs.Ytkajfadhlgmcjaa.PB
open Go Go.RowKit Go.Proofs.Ytkajfadhlgmcjaa Go.Proofs.YtkajfadhlgmcjaaW.PrintWords Go.Proofs.YtkajfadhlgmcjaaW.PrintLast Go.Proofs.YtkajfadhlgmcjaaW.PrintMore
set_option linter.unusedVariables false
set_option linter.unusedSimpArgs false
def ownB (l : Lab) : List Int := (l.filter (fun p => p.2 == 0)).map (·.1)
theorem ownB_cons (p : Int × Int) (t : Lab) : ownB (p :: t) = if p.2 = 0 then p.1 :: ownB t else ownB t := by
  unfold ownB
  by_cases h : p.2 = 0 <;> simp [h]
theorem owned_loop (l : Lab) (hlen : l.length ≤ 1000000) : ∀ (d k i : Nat) (out : List Int), i + d = l.length → d < k → out.length ≤ i → label_Owned.l0 k out (ofLab l) (l.length : Int) (i : Int) = some (out ++ ownB (l.drop i)) := by
  intro d
  induction d with
  | zero =>
    intro k i out hi hk ho
    obtain ⟨k, rfl⟩ : ∃ m, k = m + 1 := ⟨k - 1, by omega⟩
    simp only [label_Owned.l0, ofLab_len]
    rw [if_neg (by omega), List.drop_of_length_le (by omega)]
    simp [ownB]
  | succ d ih =>
    intro k i out hi hk ho
    obtain ⟨k, rfl⟩ : ∃ m, k = m + 1 := ⟨k - 1, by omega⟩
    have hil : i < l.length := by omega
    have hw := w64s i (by omega)
    simp only [label_Owned.l0, ofLab_len]
    rw [if_pos (by omega), if_pos (by omega), if_pos (by omega), rd_ofLab l i hil, hw, List.drop_eq_getElem_cons hil]
    by_cases h1 : l[i].2 = 0
    · rw [if_pos h1, if_pos (by omega), ih k (i + 1) _ (by omega) (by omega) (by simp; omega)]
      rw [ownB_cons, if_pos h1, List.append_assoc]; rfl
    · rw [if_neg h1, ih k (i + 1) _ (by omega) (by omega) (by omega), ownB_cons, if_neg h1]
theorem owned_f (l : Lab) (hlen : l.length ≤ 1000) (k : Nat) (hk : l.length < k) : label_Owned.f k (ofLab l) = some (ownB l) := by
  have := owned_loop l (by omega) l.length k 0 [] (by omega) hk (by simp)
  rw [List.drop_zero, List.nil_append] at this
  unfold label_Owned.f
  rw [ofLab_len]
  exact this
theorem ownB_len (l : Lab) : (ownB l).length ≤ l.length := by unfold ownB; rw [List.length_map]; exact List.length_filter_le _ _
theorem ownB_mem {l : Lab} (h : FitL l) {x : Int} : x ∈ ownB l ↔ getL l x = 0 := by
  unfold ownB
  simp only [List.mem_map, List.mem_filter, beq_iff_eq]
  constructor
  · rintro ⟨p, ⟨hp, h0⟩, rfl⟩
    rw [getL_mem h.sorted hp]; exact h0
  · intro h0
    rcases getL_or h.sorted x with ⟨p, hp, rfl, he⟩ | ⟨_, he⟩
    · exact ⟨p, ⟨hp, by rw [← he]; exact h0⟩, rfl⟩
    · rw [he] at h0; exact absurd h0 (by decide)
theorem ownB_sorted {l : Lab} (h : FitL l) : (ownB l).Pairwise (· < ·) := by
  unfold ownB
  rw [List.pairwise_map]
  exact List.Pairwise.filter _ h.sorted
theorem ownB_rise {l : Lab} (h : FitL l) {i j : Nat} (hj : j < (ownB l).length) (hij : i < j) : (ownB l)[i] < (ownB l)[j] :=
  List.pairwise_iff_getElem.1 (ownB_sorted h) i j (by omega) hj hij
theorem ownB_raise {l : Lab} (h : FitL l) : ownB (raiseB l) = [] := by
  rw [List.eq_nil_iff_forall_not_mem]
  intro x hx
  rw [ownB_mem (raise_fit h), raise_get h] at hx
  split at hx <;> omega
theorem rd_own (l : List Int) (i : Nat) (h : i < l.length) : rd l (i : Int) = l[i] := by unfold rd; simp [h]
theorem owns_loop {a b : Lab} (fa : FitL a) (fb : FitL b) (na : a.length ≤ 40) (nb : b.length ≤ 40) (x : Int) : ∀ (d k i : Nat), i + d = (ownB a).length → d + 200 < k →
    curtilagelaw02_LabelOwns.l0 k (ofLab a) (ofLab b) x (ownB a) (decide (x ∈ (ownB a).take i)) (ownB a) ((ownB a).length : Int) (i : Int) = some true := by
  have l1 := joinB_len a b
  have l2 := meetB_len a b
  have l3 := raiseB_len a
  have l4 := ownB_len a
  intro d
  induction d with
  | zero =>
    intro k i hi hk
    obtain ⟨k, rfl⟩ : ∃ m, k = m + 1 := ⟨k - 1, by omega⟩
    simp only [curtilagelaw02_LabelOwns.l0]
    rw [if_neg (by omega)]
    have ra := getL_range fa x
    have rb := getL_range fb x
    have hin : decide (x ∈ (ownB a).take i) = (getL a x == 0) := by
      rw [List.take_of_length_le (by omega), Bool.eq_iff_iff, decide_eq_true_eq, beq_iff_eq]
      exact ownB_mem fa
    simp only [get_f fa (show a.length ≤ 1000 by omega), get_f fb (show b.length ≤ 1000 by omega), Option.bind_some, join_f a b (by omega) (by omega), meet_f a b (by omega) (by omega), get_f (join_fit fa fb) (by omega), get_f (meet_fit fa fb) (by omega), join_get fa fb, meet_get fa fb, raise_f a (by omega), owned_f (raiseB a) (by omega) k (by omega), ownB_raise fa, curtilagelaw02_awake.f, hin]
    rw [if_pos (by simp)]
    by_cases h0 : getL a x = 0
    · rw [if_pos h0, h0]
      by_cases h1 : getL b x = 0
      · rw [h1]; rfl
      · rw [if_pos (by rw [Int.max_eq_right rb.1]; simp), if_pos (by rw [Int.min_eq_left rb.1]; rfl)]; rfl
    · rw [if_neg h0]
      have e1 : ((max (getL a x) (getL b x) == 0) == false) = true := by
        have : max (getL a x) (getL b x) ≠ 0 := by omega
        simp [this]
      have e2 : ((min (getL a x) (getL b x) == 0) == (getL b x == 0)) = true := by
        by_cases h1 : getL b x = 0
        · have : min (getL a x) (getL b x) = 0 := by omega
          rw [this, h1]; rfl
        · have : min (getL a x) (getL b x) ≠ 0 := by omega
          rw [beq_eq_false_iff_ne.2 this, beq_eq_false_iff_ne.2 h1]; rfl
      rw [if_pos e1, if_pos e2]; rfl
  | succ d ih =>
    intro k i hi hk
    obtain ⟨k, rfl⟩ : ∃ m, k = m + 1 := ⟨k - 1, by omega⟩
    have hil : i < (ownB a).length := by omega
    have hw := w64s i (by omega)
    have ih' := ih k (i + 1) (by omega) (by omega)
    have hgf : label_Get.f (ofLab a) (ownB a)[i] = some 0 := by rw [get_f fa (by omega)]; exact congrArg some ((ownB_mem fa).1 (List.getElem_mem hil))
    have htk : (ownB a).take (i + 1) = (ownB a).take i ++ [(ownB a)[i]] := List.take_succ_eq_append_getElem hil
    rw [htk] at ih'
    have hx1 : (i : Int) < ((ownB a).length : Int) := Int.ofNat_lt.2 hil
    have hx0 : (0 : Int) ≤ (i : Int) := Int.natCast_nonneg i
    unfold curtilagelaw02_LabelOwns.l0
    rw [if_pos hx1, if_pos hx0, if_pos hx1, hw, rd_own _ i hil]
    simp only [hgf, Option.bind_some, if_true]
    have hprev : (i : Int) > 0 → ¬ (rd (ownB a) (wrap64 ((i : Int) - 1)) ≥ (ownB a)[i]) ∧ 0 ≤ wrap64 ((i : Int) - 1) ∧ wrap64 ((i : Int) - 1) < ((ownB a).length : Int) := by
      intro hp
      have hw2 : wrap64 ((i : Int) - 1) = ((i - 1 : Nat) : Int) := by rw [w64 (by omega)]; omega
      have hlt : i - 1 < (ownB a).length := by omega
      rw [hw2, rd_own _ (i - 1) hlt]
      exact ⟨Int.not_le.2 (ownB_rise fa (i := i - 1) hil (by omega)), Int.natCast_nonneg _, Int.ofNat_lt.2 hlt⟩
    by_cases hin : x ∈ (ownB a).take i
    · rw [if_pos (by simpa using hin)]
      have e : decide (x ∈ (ownB a).take i ++ [(ownB a)[i]]) = true := decide_eq_true (List.mem_append_left _ hin)
      rw [e] at ih'
      by_cases hp : (i : Int) > 0
      · obtain ⟨p1, p2, p3⟩ := hprev hp
        rw [if_pos hp, if_pos p2, if_pos p3, if_neg p1]; exact ih'
      · rw [if_neg hp]; exact ih'
    · rw [if_neg (by simpa using hin)]
      have e : decide (x ∈ (ownB a).take i ++ [(ownB a)[i]]) = ((ownB a)[i] == x) := by
        rw [Bool.eq_iff_iff, decide_eq_true_eq, beq_iff_eq, List.mem_append, List.mem_singleton]
        exact ⟨fun h => h.elim (fun h => absurd h hin) (fun h => h.symm), fun h => .inr h.symm⟩
      rw [e] at ih'
      by_cases hp : (i : Int) > 0
      · obtain ⟨p1, p2, p3⟩ := hprev hp
        rw [if_pos hp, if_pos p2, if_pos p3, if_neg p1]; exact ih'
      · rw [if_neg hp]; exact ih'
theorem labelOwns_pure (l0 l1 : List S46) (x : Int) : ∃ k, curtilagelaw02_LabelOwns.f k l0 l1 x = some true := by
  obtain ⟨a, rfl⟩ : ∃ a, l0 = ofLab a := ⟨toL l0, (ofLab_toL l0).symm⟩
  obtain ⟨b, rfl⟩ : ∃ a, l1 = ofLab a := ⟨toL l1, (ofLab_toL l1).symm⟩
  refine ⟨400, ?_⟩
  unfold curtilagelaw02_LabelOwns.f
  have hj0 : curtilagelaw02_LabelOwns.j0 400 (ofLab a) (ofLab b) x true = some true := by
    simp only [curtilagelaw02_LabelOwns.j0, curtilagelaw02_awake.f, if_true, Option.bind_some]
  rw [few2_f a b 400 (by omega), Option.bind_some]
  by_cases hf : fewB [a, b] = true
  · rw [if_pos hf]
    obtain ⟨na, nb⟩ := few2 hf
    rw [fit_f a (by omega) 400 (by omega), Option.bind_some]
    by_cases fa : FitL a
    · rw [if_pos (fitB_t fa), fit_f b (by omega) 400 (by omega), Option.bind_some]
      by_cases fb : FitL b
      · rw [fitB_t fb]
        have l4 := ownB_len a
        have := owns_loop fa fb na nb x (ownB a).length 399 0 (by omega) (by omega)
        rw [List.take_zero] at this
        simp only [curtilagelaw02_LabelOwns.j0]
        rw [if_neg (by simp), owned_f a (by omega) 399 (by omega), Option.bind_some]
        simpa using this
      · rw [fitB_f fb]; exact hj0
    · rw [if_neg (by rw [fitB_f fa]; simp)]; exact hj0
  · rw [if_neg hf]; exact hj0
end Go.Proofs.Ytkajfadhlgmcjaa.PB
