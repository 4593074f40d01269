import Derived.Test.YtkajfadhlgmcjaaSetPure
import Derived.Test.YtkajfadhlgmcjaaPSx2
import Derived.Test.YtkajfadhlgmcjaaPSx3a
namespace Go.Proofs.Ytkajfadhlgmcjaa.PS
open Go Go.RowKit Go.Proofs.Ytkajfadhlgmcjaa Go.Proofs.YtkajfadhlgmcjaaW.PrintWords Go.Proofs.YtkajfadhlgmcjaaW.PrintLast Go.Proofs.YtkajfadhlgmcjaaW.PrintMore
set_option linter.unusedVariables false
set_option linter.unusedSimpArgs false
theorem raiseB_len (a : Lab) : (raiseB a).length ≤ a.length := foldB_len _ _ _
theorem lowerB_len (a : Lab) : (lowerB a).length ≤ a.length := foldB_len _ _ _
theorem rd_ofLab (l : Lab) (i : Nat) (h : i < l.length) : rd_T46 (ofLab l) (i : Int) = ⟨l[i].1, l[i].2⟩ := by
  unfold rd_T46 ofLab
  simp [h]
theorem w64 {x : Int} (h : 0 ≤ x ∧ x < 9223372036854775808) : wrap64 x = x := by unfold wrap64; omega
theorem w64s (i : Nat) (h : i < 1000000000) : wrap64 ((i : Int) + 1) = ((i + 1 : Nat) : Int) := by rw [w64 (by omega)]; omega
open Classical in
noncomputable def sameB (a b : Lab) : Bool := decide (a = b)
theorem sameB_t {a b : Lab} (h : a = b) : sameB a b = true := by unfold sameB; simp [h]
open Classical in
theorem same_loop (a b : Lab) (he : a.length = b.length) (hlen : a.length ≤ 1000000) : ∀ (d k i : Nat), i + d = a.length → d < k → curtilageref02_Same.l0 k (ofLab a) (ofLab b) (i : Int) = some (decide (a.drop i = b.drop i)) := by
  intro d
  induction d with
  | zero =>
    intro k i hi hk
    obtain ⟨k, rfl⟩ : ∃ m, k = m + 1 := ⟨k - 1, by omega⟩
    simp only [curtilageref02_Same.l0, ofLab_len]
    rw [if_neg (by omega)]
    congr 1; symm
    exact decide_eq_true (by rw [List.drop_of_length_le (by omega), List.drop_of_length_le (by omega)])
  | succ d ih =>
    intro k i hi hk
    obtain ⟨k, rfl⟩ : ∃ m, k = m + 1 := ⟨k - 1, by omega⟩
    have ha : i < a.length := by omega
    have hb : i < b.length := by omega
    have ih' := ih k (i + 1) (by omega) (by omega)
    have hw := w64s i (by omega)
    simp only [curtilageref02_Same.l0, ofLab_len]
    rw [if_pos (by omega), if_pos (by omega), if_pos (by omega), rd_ofLab a i ha, rd_ofLab b i hb, hw, ih']
    rw [List.drop_eq_getElem_cons ha, List.drop_eq_getElem_cons hb]
    by_cases h1 : a[i] = b[i]
    · rw [if_neg (by simp [h1])]
      congr 1
      exact decide_eq_decide.2 ⟨fun h => by rw [h1, h], fun h => (List.cons.inj h).2⟩
    · rw [if_pos (by
        by_cases hx : a[i].1 = b[i].1
        · have hy : a[i].2 ≠ b[i].2 := fun hy => h1 (Prod.ext hx hy)
          simp [hx, hy]
        · simp [hx])]
      congr 1; symm
      exact decide_eq_false fun h => h1 (List.cons.inj h).1
theorem same_f (a b : Lab) (hlen : a.length ≤ 1000) (k : Nat) (hk : a.length < k) : curtilageref02_Same.f k (ofLab a) (ofLab b) = some (sameB a b) := by
  unfold curtilageref02_Same.f
  rw [ofLab_len, ofLab_len]
  by_cases he : a.length = b.length
  · rw [if_pos (by omega)]
    have := same_loop a b he (by omega) a.length k 0 (by omega) hk
    simp only [List.drop_zero] at this
    exact this
  · rw [if_neg (by omega)]
    congr 1; symm
    unfold sameB
    exact decide_eq_false fun h => he (by rw [h])
theorem leq_f (a b : Lab) (ha : a.length ≤ 1000) (hb : b.length ≤ 1000) : label_Leq.f (ofLab a) (ofLab b) = some (leqB a b) := by
  unfold label_Leq.f; rw [ofLab_len, ofLab_len, toL_ofLab, toL_ofLab, if_pos (by omega)]
theorem rd_L (ls : List Lab) (i : Nat) (h : i < ls.length) : rd_L3 (ls.map ofLab) (i : Int) = ofLab ls[i] := by
  unfold rd_L3
  simp [h]
def fewB (ls : List Lab) : Bool := ls.all (fun l => decide (l.length ≤ 40))
theorem few_loop (ls : List Lab) (hn : ls.length ≤ 100) : ∀ (d k i : Nat), i + d = ls.length → d < k → curtilagelaw02_few.l0 k (ls.map ofLab) (ls.length : Int) (i : Int) = some (fewB (ls.drop i)) := by
  intro d
  induction d with
  | zero =>
    intro k i hi hk
    obtain ⟨k, rfl⟩ : ∃ m, k = m + 1 := ⟨k - 1, by omega⟩
    simp only [curtilagelaw02_few.l0]
    rw [if_neg (by omega), List.drop_of_length_le (by omega)]
    rfl
  | succ d ih =>
    intro k i hi hk
    obtain ⟨k, rfl⟩ : ∃ m, k = m + 1 := ⟨k - 1, by omega⟩
    have hil : i < ls.length := by omega
    have ih' := ih k (i + 1) (by omega) (by omega)
    have hw := w64s i (by omega)
    simp only [curtilagelaw02_few.l0]
    rw [if_pos (by omega), if_pos (by omega), if_pos (by rw [List.length_map]; omega), rd_L _ i hil, hw, ih', ofLab_len, List.drop_eq_getElem_cons hil]
    have e : fewB (ls[i] :: ls.drop (i + 1)) = (decide (ls[i].length ≤ 40) && fewB (ls.drop (i + 1))) := rfl
    rw [e]
    by_cases h1 : ls[i].length ≤ 40
    · rw [if_neg (by omega), decide_eq_true h1, Bool.true_and]
    · rw [if_pos (by omega), decide_eq_false h1, Bool.false_and]
theorem few_f (ls : List Lab) (hn : ls.length ≤ 100) (k : Nat) (hk : ls.length < k) : curtilagelaw02_few.f k (ls.map ofLab) = some (fewB ls) := by
  have := few_loop ls hn ls.length k 0 (by omega) hk
  unfold curtilagelaw02_few.f
  rw [List.length_map]
  exact this
def ownB (l : Lab) : List Int := (l.filter (fun p => p.2 == 0)).map (·.1)
theorem ownB_cons (p : Int × Int) (t : Lab) : ownB (p :: t) = if p.2 = 0 then p.1 :: ownB t else ownB t := by
  unfold ownB
  by_cases h : p.2 = 0 <;> simp [h]
theorem owned_loop (l : Lab) (hlen : l.length ≤ 1000000) : ∀ (d k i : Nat) (out : List Int), i + d = l.length → d < k → out.length ≤ i → label_Owned.l0 k out (ofLab l) (l.length : Int) (i : Int) = some (out ++ ownB (l.drop i)) := by
  intro d
  induction d with
  | zero =>
    intro k i out hi hk ho
    obtain ⟨k, rfl⟩ : ∃ m, k = m + 1 := ⟨k - 1, by omega⟩
    simp only [label_Owned.l0, ofLab_len]
    rw [if_neg (by omega), List.drop_of_length_le (by omega)]
    simp [ownB]
  | succ d ih =>
    intro k i out hi hk ho
    obtain ⟨k, rfl⟩ : ∃ m, k = m + 1 := ⟨k - 1, by omega⟩
    have hil : i < l.length := by omega
    have hw := w64s i (by omega)
    simp only [label_Owned.l0, ofLab_len]
    rw [if_pos (by omega), if_pos (by omega), if_pos (by omega), rd_ofLab l i hil, hw, List.drop_eq_getElem_cons hil]
    by_cases h1 : l[i].2 = 0
    · rw [if_pos h1, if_pos (by omega), ih k (i + 1) _ (by omega) (by omega) (by simp; omega)]
      rw [ownB_cons, if_pos h1, List.append_assoc]; rfl
    · rw [if_neg h1, ih k (i + 1) _ (by omega) (by omega) (by omega), ownB_cons, if_neg h1]
theorem owned_f (l : Lab) (hlen : l.length ≤ 1000) (k : Nat) (hk : l.length < k) : label_Owned.f k (ofLab l) = some (ownB l) := by
  have := owned_loop l (by omega) l.length k 0 [] (by omega) hk (by simp)
  rw [List.drop_zero, List.nil_append] at this
  unfold label_Owned.f
  rw [ofLab_len]
  exact this
theorem ownB_len (l : Lab) : (ownB l).length ≤ l.length := by unfold ownB; rw [List.length_map]; exact List.length_filter_le _ _
theorem ownB_mem {l : Lab} (h : FitL l) {x : Int} : x ∈ ownB l ↔ getL l x = 0 := by
  unfold ownB
  simp only [List.mem_map, List.mem_filter, beq_iff_eq]
  constructor
  · rintro ⟨p, ⟨hp, h0⟩, rfl⟩
    rw [getL_mem h.sorted hp]; exact h0
  · intro h0
    rcases getL_or h.sorted x with ⟨p, hp, rfl, he⟩ | ⟨_, he⟩
    · exact ⟨p, ⟨hp, by rw [← he]; exact h0⟩, rfl⟩
    · rw [he] at h0; exact absurd h0 (by decide)
theorem fit_f (l : Lab) (hlen : l.length ≤ 1000) : curtilageref02_Fit.f (ofLab l) = some (fitX l) := by
  unfold curtilageref02_Fit.f; rw [ofLab_len, toL_ofLab, if_pos (by omega)]
theorem get_f {a : Lab} (fa : FitL a) (ha : a.length ≤ 1000) (c : Int) : label_Get.f (ofLab a) c = some (getL a c) := by
  unfold label_Get.f; rw [ofLab_len, toL_ofLab, if_pos ⟨sortB_of fa.sorted, by omega⟩]
theorem raise_f (a : Lab) (ha : a.length ≤ 1000) : label_Raise.f (ofLab a) = some (ofLab (raiseB a)) := by
  unfold label_Raise.f; rw [ofLab_len, toL_ofLab, if_pos (by omega)]
theorem lower_f (a : Lab) (ha : a.length ≤ 1000) : label_Lower.f (ofLab a) = some (ofLab (lowerB a)) := by
  unfold label_Lower.f; rw [ofLab_len, toL_ofLab, if_pos (by omega)]
theorem set_f {a : Lab} (fa : FitL a) (ha : a.length ≤ 1000) (c v : Int) : label_Set.f (ofLab a) c v = some (ofLab (setR a c v).1, (setR a c v).2) := by
  unfold label_Set.f; rw [ofLab_len, toL_ofLab, if_pos ⟨sortB_of fa.sorted, by omega⟩]
theorem up_down {a : Lab} (fa : FitL a) (h : a.any (fun p => p.2 == 5) = false) : lowerB (raiseB a) = a :=
  lab_ext (lower_fit (raise_fit fa)) fa (fun c => by
    rw [lower_get (raise_fit fa), raise_get fa]
    by_cases h0 : getL a c = 0
    · rw [if_pos h0, if_pos rfl, h0]
    · rw [if_neg h0]
      by_cases h5 : getL a c = 5
      · exfalso
        rcases getL_or fa.sorted c with ⟨p, hp, _, e⟩ | ⟨_, e⟩
        · have := List.any_eq_false.1 h p hp
          rw [← e, h5] at this; simp at this
        · omega
      · rw [if_neg h5])
theorem down_up {a : Lab} (fa : FitL a) (h : a.any (fun p => p.2 == 0) = false) : raiseB (lowerB a) = a :=
  lab_ext (raise_fit (lower_fit fa)) fa (fun c => by
    rw [raise_get (lower_fit fa), lower_get fa]
    by_cases h5 : getL a c = 5
    · rw [if_pos h5, if_pos rfl, h5]
    · rw [if_neg h5]
      by_cases h0 : getL a c = 0
      · exfalso
        rcases getL_or fa.sorted c with ⟨p, hp, _, e⟩ | ⟨_, e⟩
        · have := List.any_eq_false.1 h p hp
          rw [← e, h0] at this; simp at this
        · omega
      · rw [if_neg h0])
theorem own_up {a : Lab} (fa : FitL a) : ownB (raiseB a) = [] := by
  rw [List.eq_nil_iff_forall_not_mem]
  intro x hx
  have := (ownB_mem (raise_fit fa)).1 hx
  rw [raise_get fa] at this
  split at this <;> omega
theorem leq_up {a : Lab} (fa : FitL a) : leqB a (raiseB a) = true := (leqB_iff fa (raise_fit fa)).2 fun c => by
  rw [raise_get fa]; split <;> omega
theorem down_leq {a : Lab} (fa : FitL a) : leqB (lowerB a) a = true := (leqB_iff (lower_fit fa) fa).2 fun c => by
  rw [lower_get fa]; split <;> omega
theorem sets_end {a : Lab} (fa : FitL a) (na : a.length ≤ 40) (k : Nat) (hk : 100 < k) : curtilagelaw02_LabelSets.l0 k (ofLab a) (a.any (fun p => p.2 == 5)) (a.any (fun p => p.2 == 0)) (ofLab a) (a.length : Int) (a.length : Int) = some true := by
  obtain ⟨k, rfl⟩ : ∃ m, k = m + 1 := ⟨k - 1, by omega⟩
  have l1 := raiseB_len a
  have l2 := lowerB_len a
  have l3 := lowerB_len (raiseB a)
  have l4 := raiseB_len (lowerB a)
  have ho : label_Owned.f k (ofLab (raiseB a)) = some [] := by rw [owned_f (raiseB a) (by omega) k (by omega), own_up fa]
  have e1 := leq_f a (raiseB a) (by omega) (by omega)
  have e2 := leq_f (lowerB a) a (by omega) (by omega)
  rw [leq_up fa] at e1
  rw [down_leq fa] at e2
  simp only [curtilagelaw02_LabelSets.l0]
  rw [if_neg (by omega), raise_f a (by omega), Option.bind_some, lower_f a (by omega), Option.bind_some]
  have aw : curtilagelaw02_awake.f = some true := rfl
  cases h5 : a.any (fun p => p.2 == 5) with
  | true =>
    cases h0 : a.any (fun p => p.2 == 0) with
    | true => simp [ho, e1, e2, aw]
    | false =>
      have s2 : curtilageref02_Same.f k (ofLab (raiseB (lowerB a))) (ofLab a) = some true := by rw [down_up fa h0, same_f a a (by omega) k (by omega), sameB_t rfl]
      simp [ho, e1, e2, aw, raise_f (lowerB a) (by omega), s2]
  | false =>
    have s1 : curtilageref02_Same.f k (ofLab (lowerB (raiseB a))) (ofLab a) = some true := by rw [up_down fa h5, same_f a a (by omega) k (by omega), sameB_t rfl]
    cases h0 : a.any (fun p => p.2 == 0) with
    | true => simp [ho, e1, e2, aw, lower_f (raiseB a) (by omega), s1]
    | false =>
      have s2 : curtilageref02_Same.f k (ofLab (raiseB (lowerB a))) (ofLab a) = some true := by rw [down_up fa h0, same_f a a (by omega) k (by omega), sameB_t rfl]
      simp [ho, e1, e2, aw, lower_f (raiseB a) (by omega), s1, raise_f (lowerB a) (by omega), s2]
theorem sets_loop {a : Lab} (fa : FitL a) (na : a.length ≤ 40) : ∀ (d k i : Nat), i + d = a.length → d + 100 < k → curtilagelaw02_LabelSets.l0 k (ofLab a) ((a.take i).any (fun p => p.2 == 5)) ((a.take i).any (fun p => p.2 == 0)) (ofLab a) (a.length : Int) (i : Int) = some true := by
  intro d
  induction d with
  | zero =>
    intro k i hi hk
    obtain rfl : i = a.length := by omega
    rw [List.take_length]
    exact sets_end fa na k (by omega)
  | succ d ih =>
    intro k i hi hk
    obtain ⟨k, rfl⟩ : ∃ m, k = m + 1 := ⟨k - 1, by omega⟩
    have hil : i < a.length := by omega
    have ih' := ih k (i + 1) (by omega) (by omega)
    have hw := w64s i (by omega)
    rw [List.take_add_one, List.getElem?_eq_getElem hil] at ih'
    simp only [List.any_append, Option.toList_some, List.any_cons, List.any_nil, Bool.or_false] at ih'
    simp only [curtilagelaw02_LabelSets.l0]
    rw [if_pos (by omega), if_pos (by omega), if_pos (by rw [ofLab_len]; omega), rd_ofLab a i hil, hw]
    cases h5 : (a.take i).any (fun p => p.2 == 5) <;> cases h0 : (a.take i).any (fun p => p.2 == 0) <;> rw [h5, h0] at ih' <;> simpa using ih'
theorem labelSets_pure (l0 : List S46) (c x v : Int) : ∃ k, curtilagelaw02_LabelSets.f k l0 c x v = some true := by
  obtain ⟨a, rfl⟩ : ∃ a, l0 = ofLab a := ⟨toL l0, (ofLab_toL l0).symm⟩
  refine ⟨400, ?_⟩
  unfold curtilagelaw02_LabelSets.f
  have aw : curtilagelaw02_awake.f = some true := rfl
  have hj0 : curtilagelaw02_LabelSets.j0 400 (ofLab a) c x v true = some true := by
    simp only [curtilagelaw02_LabelSets.j0, aw, if_true, Option.bind_some]
  have hfew : curtilagelaw02_few.f 400 [ofLab a] = some (fewB [a]) := few_f [a] (by simp) 400 (by simp)
  rw [hfew, Option.bind_some]
  by_cases hf : fewB [a] = true
  · rw [if_pos hf]
    have na : a.length ≤ 40 := by simpa [fewB] using hf
    rw [fit_f a (by omega), Option.bind_some]
    cases hx : fitX a with
    | false => exact hj0
    | true =>
      have fa := fitX_iff.1 hx
      have hlast : ∀ k, 160 < k → curtilagelaw02_LabelSets.j2 k (ofLab a) false = some true := by
        intro k hk
        obtain ⟨k, rfl⟩ : ∃ m, k = m + 1 := ⟨k - 1, by omega⟩
        have := sets_loop fa na a.length k 0 (by omega) (by omega)
        simp only [curtilagelaw02_LabelSets.j2, ofLab_len]
        simpa using this
      have hsame : curtilageref02_Same.f 399 (ofLab a) (ofLab a) = some true := by rw [same_f a a (by omega) 399 (by omega), sameB_t rfl]
      have hsame2 : curtilageref02_Same.f 398 (ofLab a) (ofLab a) = some true := by rw [same_f a a (by omega) 398 (by omega), sameB_t rfl]
      simp only [curtilagelaw02_LabelSets.j0, Bool.not_true, Bool.false_eq_true, if_false, set_f fa (show a.length ≤ 1000 by omega), Option.bind_some]
      cases hl : levB v with
      | false =>
        have e : setR a c v = (a, 4) := by unfold setR; rw [hl]; rfl
        rw [e]
        simp [hsame, aw]
      | true =>
        have hv : 0 ≤ v ∧ v ≤ 5 := by simpa [levB] using hl
        by_cases hb : (setB a c v).length > 16
        · have e : setR a c v = (a, 6) := by unfold setR; rw [hl, if_pos rfl, if_pos hb]
          rw [e]
          simp [hsame, aw]
        · have e : setR a c v = (setB a c v, 0) := by unfold setR; rw [hl, if_pos rfl, if_neg hb]
          have fb := setB_fit fa c v hv
          have hback := setB_back fa c v hv
          have hg : ∀ y, getL (setB a c v) y = if y = c then v else getL a y := fun y => setB_get fa.sorted c v y
          have hj1 : curtilagelaw02_LabelSets.j1 399 (ofLab a) c (ofLab (setB a c v)) false = some true := by
            simp only [curtilagelaw02_LabelSets.j1, Bool.false_eq_true, if_false, get_f fa (show a.length ≤ 1000 by omega), Option.bind_some, set_f fb (show (setB a c v).length ≤ 1000 by omega)]
            by_cases h2 : (setR (setB a c v) c (getL a c)).2 = 0
            · rw [if_pos h2]
              have e3 : (setR (setB a c v) c (getL a c)).1 = a := by
                unfold setR at h2 ⊢
                cases hq : levB (getL a c) with
                | false => rw [hq] at h2; simp at h2
                | true =>
                  rw [hq, if_pos rfl] at h2
                  rw [if_pos rfl]
                  by_cases hb2 : (setB (setB a c v) c (getL a c)).length > 16
                  · rw [if_pos hb2] at h2; simp at h2
                  · rw [if_neg hb2]; exact hback
              rw [e3, hsame2, Option.bind_some]
              exact hlast 398 (by omega)
            · rw [if_neg h2]
              exact hlast 398 (by omega)
          rw [e]
          simp only [if_true, get_f fb (show (setB a c v).length ≤ 1000 by omega), get_f fa (show a.length ≤ 1000 by omega), Option.bind_some, hg]
          by_cases hcx : c = x
          · rw [if_pos hcx]; exact hj1
          · rw [if_neg hcx, if_neg (fun e => hcx e.symm)]
            simpa using hj1
  · rw [if_neg hf]; exact hj0
end Go.Proofs.Ytkajfadhlgmcjaa.PS
