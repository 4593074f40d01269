import Derived.Test.YtkajfadhlgmcjaaLabSet
namespace Go.Proofs.Ytkajfadhlgmcjaa
set_option linter.unusedVariables false
set_option linter.unusedSimpArgs false
theorem posB_cons (p : Int × Int) (t : Lab) (c : Int) : posB (p :: t) c = if p.1 < c then posB t c + 1 else 0 := by
  unfold posB
  rw [List.takeWhile_cons]
  by_cases h : p.1 < c <;> simp [h]
theorem hitB_succ (p : Int × Int) (t : Lab) (c : Int) (k : Nat) : hitB (p :: t) c (k + 1) = hitB t c k := by
  unfold hitB
  refine decide_eq_decide.2 ⟨?_, ?_⟩
  · rintro ⟨h, e⟩
    exact ⟨by simpa using h, by simpa using e⟩
  · rintro ⟨h, e⟩
    exact ⟨by simpa using h, by simpa using e⟩
theorem hitB_zero (p : Int × Int) (t : Lab) (c : Int) : hitB (p :: t) c 0 = decide (p.1 = c) := by
  unfold hitB
  refine decide_eq_decide.2 ⟨?_, ?_⟩
  · rintro ⟨h, e⟩; simpa using e
  · intro e; exact ⟨by simp, by simpa using e⟩
theorem setB_nil (c v : Int) : setB [] c v = if v = 2 then [] else [(c, v)] := by
  unfold setB
  have h : hitB [] c (posB [] c) = false := decide_eq_false (by rintro ⟨h, _⟩; simp at h)
  rw [h]
  by_cases hv : v = 2 <;> simp [hv]
theorem setB_cons (p : Int × Int) (t : Lab) (c v : Int) : setB (p :: t) c v = if p.1 < c then p :: setB t c v else if v = 2 then (if p.1 = c then t else p :: t) else if p.1 = c then (c, v) :: t else (c, v) :: p :: t := by
  unfold setB
  rw [posB_cons]
  by_cases h : p.1 < c
  · rw [if_pos h, if_pos h, hitB_succ]
    by_cases hv : v = 2
    · rw [if_pos hv, if_pos hv]
      cases hitB t c (posB t c) <;> simp
    · rw [if_neg hv, if_neg hv]
      cases hitB t c (posB t c) <;> simp
  · rw [if_neg h, if_neg h, hitB_zero]
    by_cases hv : v = 2
    · rw [if_pos hv, if_pos hv]
      by_cases he : p.1 = c <;> simp [he]
    · rw [if_neg hv, if_neg hv]
      by_cases he : p.1 = c <;> simp [he]
theorem setB_mem {l : Lab} {c v : Int} {p : Int × Int} (h : p ∈ setB l c v) : p ∈ l ∨ (p = (c, v) ∧ v ≠ 2) := by
  induction l with
  | nil =>
    rw [setB_nil] at h
    split at h
    · simp at h
    · rename_i hv; exact .inr ⟨by simpa using h, hv⟩
  | cons q t ih =>
    rw [setB_cons] at h
    split at h
    · rcases List.mem_cons.1 h with rfl | h
      · exact .inl (by simp)
      · rcases ih h with h | h
        · exact .inl (by simp [h])
        · exact .inr h
    · split at h
      · split at h
        · exact .inl (by simp [h])
        · exact .inl h
      · rename_i hv
        split at h
        · rcases List.mem_cons.1 h with h | h
          · exact .inr ⟨h, hv⟩
          · exact .inl (by simp [h])
        · rcases List.mem_cons.1 h with h | h
          · exact .inr ⟨h, hv⟩
          · exact .inl h
theorem setB_sorted {l : Lab} (h : SortedP l) (c v : Int) : SortedP (setB l c v) := by
  unfold SortedP at *
  induction l with
  | nil => rw [setB_nil]; split <;> simp
  | cons q t ih =>
    obtain ⟨h1, h2⟩ := List.pairwise_cons.1 h
    rw [setB_cons]
    split
    · rename_i hq
      refine List.pairwise_cons.2 ⟨fun p hp => ?_, ih h2⟩
      rcases setB_mem hp with hp | ⟨rfl, _⟩
      · exact h1 p hp
      · exact hq
    · rename_i hq
      split
      · split
        · exact h2
        · exact h
      · split
        · rename_i he
          exact List.pairwise_cons.2 ⟨fun p hp => by have := h1 p hp; simp only []; omega, h2⟩
        · rename_i he
          refine List.pairwise_cons.2 ⟨fun p hp => ?_, h⟩
          rcases List.mem_cons.1 hp with rfl | hp
          · simp only []; omega
          · have := h1 p hp; simp only []; omega
theorem getL_above {l : Lab} {c : Int} (h : ∀ p ∈ l, c < p.1) : getL l c = 2 := by
  induction l with
  | nil => exact getL_nil c
  | cons p t ih =>
    have := h p (by simp)
    rw [getL_cons, if_neg (by omega)]
    exact ih (fun q hq => h q (by simp [hq]))
theorem setB_get {l : Lab} (h : SortedP l) (c v x : Int) : getL (setB l c v) x = if x = c then v else getL l x := by
  unfold SortedP at h
  induction l with
  | nil =>
    rw [setB_nil]
    by_cases hv : v = 2
    · rw [if_pos hv, getL_nil]; split <;> simp [hv]
    · rw [if_neg hv, getL_cons, getL_nil]
      by_cases hx : x = c
      · rw [if_pos hx.symm, if_pos hx]
      · rw [if_neg (fun e => hx e.symm), if_neg hx]
  | cons q t ih =>
    obtain ⟨h1, h2⟩ := List.pairwise_cons.1 h
    rw [setB_cons]
    by_cases hq : q.1 < c
    · rw [if_pos hq, getL_cons, getL_cons, ih h2]
      by_cases hx : x = c
      · rw [if_pos hx, if_pos hx, if_neg (by omega)]
      · rw [if_neg hx, if_neg hx]
    · rw [if_neg hq]
      by_cases hv : v = 2
      · rw [if_pos hv]
        by_cases he : q.1 = c
        · rw [if_pos he]
          by_cases hx : x = c
          · rw [if_pos hx, hx, getL_above (fun p hp => by have := h1 p hp; omega), hv]
          · rw [if_neg hx, getL_cons, if_neg (by omega)]
        · rw [if_neg he]
          by_cases hx : x = c
          · rw [if_pos hx, hx, hv]
            exact getL_above (fun p hp => by
              rcases List.mem_cons.1 hp with rfl | hp
              · omega
              · have := h1 p hp; omega)
          · rw [if_neg hx]
      · rw [if_neg hv]
        by_cases he : q.1 = c
        · rw [if_pos he, getL_cons]
          by_cases hx : x = c
          · rw [if_pos hx.symm, if_pos hx]
          · rw [if_neg (fun e => hx e.symm), if_neg hx, getL_cons, if_neg (by omega)]
        · rw [if_neg he, getL_cons]
          by_cases hx : x = c
          · rw [if_pos hx.symm, if_pos hx]
          · rw [if_neg (fun e => hx e.symm), if_neg hx]
theorem setB_fit {l : Lab} (h : FitL l) (c v : Int) (hv : 0 ≤ v ∧ v ≤ 5) : FitL (setB l c v) :=
  ⟨setB_sorted h.sorted c v, fun p hp => by
    rcases setB_mem hp with hp | ⟨rfl, h2⟩
    · exact h.lev p hp
    · exact ⟨hv.1, hv.2, h2⟩⟩
theorem setB_back {l : Lab} (h : FitL l) (c v : Int) (hv : 0 ≤ v ∧ v ≤ 5) : setB (setB l c v) c (getL l c) = l := by
  have hf := setB_fit h c v hv
  have hg : 0 ≤ getL l c ∧ getL l c ≤ 5 := by
    rcases getL_or h.sorted c with ⟨p, hp, _, e⟩ | ⟨_, e⟩
    · have := h.lev p hp; rw [e]; exact ⟨this.1, this.2.1⟩
    · rw [e]; decide
  refine lab_ext (setB_fit hf c _ hg) h (fun x => ?_)
  rw [setB_get hf.sorted, setB_get h.sorted]
  by_cases hx : x = c
  · rw [if_pos hx, hx]
  · rw [if_neg hx, if_neg hx]
end Go.Proofs.Ytkajfadhlgmcjaa
