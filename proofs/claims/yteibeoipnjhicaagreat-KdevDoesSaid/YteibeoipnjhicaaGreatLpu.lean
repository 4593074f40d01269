import Derived.Test.YteibeoipnjhicaaGreatRz0
namespace Go.Proofs.YteibeoipnjhicaaGreat
open Go Go.RowKit
set_option linter.unusedVariables false
set_option linter.unusedSimpArgs false
theorem ofL_of {a : Int} (h : 0 ≤ a ∧ a ≤ 5) : ofL a = a := if_pos h
def Sorted (l : Lab) : Prop := ∀ i j (hi : i < l.length) (hj : j < l.length), i < j → l[i].1 < l[j].1
def getL (l : Lab) (c : Int) : Int := match l.find? (fun p => p.1 == c) with
  | some p => p.2
  | none => 2
theorem Sorted.uniq {l : Lab} (h : Sorted l) {i j : Nat} (hi : i < l.length) (hj : j < l.length) (he : l[i].1 = l[j].1) : i = j := by
  rcases Nat.lt_trichotomy i j with hlt | rfl | hlt
  · have := h i j hi hj hlt; omega
  · rfl
  · have := h j i hj hi hlt; omega
theorem getL_at {l : Lab} (h : Sorted l) {i : Nat} (hi : i < l.length) : getL l l[i].1 = l[i].2 := by
  unfold getL
  cases hf : l.find? (fun p => p.1 == l[i].1) with
  | none => rw [List.find?_eq_none] at hf; exact absurd (by simp) (hf l[i] (List.getElem_mem _))
  | some p =>
    have h1 := List.find?_some hf
    obtain ⟨j, hj, rfl⟩ := List.getElem_of_mem (List.mem_of_find?_eq_some hf)
    have : j = i := h.uniq hj hi (by simpa using h1)
    subst this; rfl
def SortedP (l : Lab) : Prop := l.Pairwise (fun p q => p.1 < q.1)
theorem sorted_iff {l : Lab} : Sorted l ↔ SortedP l := by
  unfold Sorted SortedP
  rw [List.pairwise_iff_getElem]
/-- A fit label. -/
structure FitL (l : Lab) : Prop where
  sorted : SortedP l
  lev : ∀ p ∈ l, 0 ≤ p.2 ∧ p.2 ≤ 5 ∧ p.2 ≠ 2
theorem getL_nil (c : Int) : getL [] c = 2 := rfl
theorem getL_cons (p : Int × Int) (t : Lab) (c : Int) : getL (p :: t) c = if p.1 = c then p.2 else getL t c := by
  unfold getL
  by_cases h : p.1 = c
  · simp [List.find?_cons, h]
  · have : (p.1 == c) = false := by simpa using h
    simp [List.find?_cons, this, h]
theorem getL_out {l : Lab} {c : Int} (h : ∀ p ∈ l, p.1 ≠ c) : getL l c = 2 := by
  induction l with
  | nil => rfl
  | cons p t ih => rw [getL_cons, if_neg (h p (by simp)), ih (fun q hq => h q (by simp [hq]))]
theorem SortedP.tail {p : Int × Int} {t : Lab} (h : SortedP (p :: t)) : SortedP t := (List.pairwise_cons.1 h).2
theorem SortedP.head {p : Int × Int} {t : Lab} (h : SortedP (p :: t)) : ∀ q ∈ t, p.1 < q.1 := (List.pairwise_cons.1 h).1
theorem q7d {p : Int × Int} {t : Lab} : getL (p :: t) p.1 = p.2 := by rw [getL_cons, if_pos rfl]
theorem q7c {p : Int × Int} {t : Lab} {c : Int} (h : p.1 ≠ c) : getL (p :: t) c = getL t c := by rw [getL_cons, if_neg h]
theorem getL_mem {l : Lab} (h : SortedP l) {p : Int × Int} (hp : p ∈ l) : getL l p.1 = p.2 := by
  obtain ⟨i, hi, rfl⟩ := List.getElem_of_mem hp
  exact getL_at (sorted_iff.2 h) hi
theorem getL_or {l : Lab} (h : SortedP l) (c : Int) : (∃ p ∈ l, p.1 = c ∧ getL l c = p.2) ∨ ((∀ p ∈ l, p.1 ≠ c) ∧ getL l c = 2) := by
  by_cases hx : ∃ p ∈ l, p.1 = c
  · obtain ⟨p, hp, rfl⟩ := hx
    exact .inl ⟨p, hp, rfl, getL_mem h hp⟩
  · have : ∀ p ∈ l, p.1 ≠ c := fun p hp he => hx ⟨p, hp, he⟩
    exact .inr ⟨this, getL_out this⟩
theorem getL_range {l : Lab} (h : FitL l) (c : Int) : 0 ≤ getL l c ∧ getL l c ≤ 5 := by
  rcases getL_or h.sorted c with ⟨p, hp, _, he⟩ | ⟨_, he⟩
  · have := h.lev p hp; omega
  · omega
theorem ofL_get {l : Lab} (h : FitL l) (c : Int) : ofL (getL l c) = getL l c := ofL_of (getL_range h c)
theorem q4t {a b : Lab} {x : Int × (Int × Int)} (hx : x ∈ q3i a b) : (∃ p ∈ a, p.1 = x.1) ∨ (∃ q ∈ b, q.1 = x.1) := by
  fun_induction q3i a b with
  | case1 => simp at hx
  | case2 p a ih =>
    rcases List.mem_cons.1 hx with rfl | hx
    · exact .inl ⟨p, by simp, rfl⟩
    · rcases ih hx with ⟨q, hq, he⟩ | ⟨q, hq, he⟩
      · exact .inl ⟨q, by simp [hq], he⟩
      · simp at hq
  | case3 q b ih =>
    rcases List.mem_cons.1 hx with rfl | hx
    · exact .inr ⟨q, by simp, rfl⟩
    · rcases ih hx with ⟨p, hp, he⟩ | ⟨p, hp, he⟩
      · simp at hp
      · exact .inr ⟨p, by simp [hp], he⟩
  | case4 p a q b hlt ih =>
    rcases List.mem_cons.1 hx with rfl | hx
    · exact .inl ⟨p, by simp, rfl⟩
    · rcases ih hx with ⟨r, hr, he⟩ | h
      · exact .inl ⟨r, by simp [hr], he⟩
      · exact .inr h
  | case5 p a q b hlt hgt ih =>
    rcases List.mem_cons.1 hx with rfl | hx
    · exact .inr ⟨q, by simp, rfl⟩
    · rcases ih hx with h | ⟨r, hr, he⟩
      · exact .inl h
      · exact .inr ⟨r, by simp [hr], he⟩
  | case6 p a q b hlt hgt ih =>
    rcases List.mem_cons.1 hx with rfl | hx
    · exact .inr ⟨q, by simp, rfl⟩
    · rcases ih hx with ⟨r, hr, he⟩ | ⟨r, hr, he⟩
      · exact .inl ⟨r, by simp [hr], he⟩
      · exact .inr ⟨r, by simp [hr], he⟩
theorem mergeB_sorted {a b : Lab} (ha : SortedP a) (hb : SortedP b) : (q3i a b).Pairwise (fun x y => x.1 < y.1) := by
  fun_induction q3i a b with
  | case1 => exact List.Pairwise.nil
  | case2 p a ih =>
    refine List.pairwise_cons.2 ⟨fun y hy => ?_, ih ha.tail hb⟩
    rcases q4t hy with ⟨q, hq, he⟩ | ⟨q, hq, he⟩
    · have := ha.head q hq; simp only; omega
    · simp at hq
  | case3 q b ih =>
    refine List.pairwise_cons.2 ⟨fun y hy => ?_, ih ha hb.tail⟩
    rcases q4t hy with ⟨p, hp, he⟩ | ⟨p, hp, he⟩
    · simp at hp
    · have := hb.head p hp; simp only; omega
  | case4 p a q b hlt ih =>
    refine List.pairwise_cons.2 ⟨fun y hy => ?_, ih ha.tail hb⟩
    rcases q4t hy with ⟨r, hr, he⟩ | ⟨r, hr, he⟩
    · have := ha.head r hr; simp only; omega
    · rcases List.mem_cons.1 hr with rfl | hr
      · simp only; omega
      · have := hb.head r hr; simp only; omega
  | case5 p a q b hlt hgt ih =>
    refine List.pairwise_cons.2 ⟨fun y hy => ?_, ih ha hb.tail⟩
    rcases q4t hy with ⟨r, hr, he⟩ | ⟨r, hr, he⟩
    · rcases List.mem_cons.1 hr with rfl | hr
      · simp only; omega
      · have := ha.head r hr; simp only; omega
    · have := hb.head r hr; simp only; omega
  | case6 p a q b hlt hgt ih =>
    refine List.pairwise_cons.2 ⟨fun y hy => ?_, ih ha.tail hb.tail⟩
    rcases q4t hy with ⟨r, hr, he⟩ | ⟨r, hr, he⟩
    · have := ha.head r hr; simp only; omega
    · have := hb.head r hr; simp only; omega
theorem mergeB_all {a b : Lab} : (∀ p ∈ a, ∃ x ∈ q3i a b, x.1 = p.1) ∧ (∀ q ∈ b, ∃ x ∈ q3i a b, x.1 = q.1) := by
  fun_induction q3i a b with
  | case1 => simp
  | case2 p a ih =>
    refine ⟨fun r hr => ?_, fun r hr => by simp at hr⟩
    rcases List.mem_cons.1 hr with rfl | hr
    · exact ⟨_, List.mem_cons_self, rfl⟩
    · obtain ⟨x, hx, he⟩ := ih.1 r hr; exact ⟨x, List.mem_cons_of_mem _ hx, he⟩
  | case3 q b ih =>
    refine ⟨fun r hr => by simp at hr, fun r hr => ?_⟩
    rcases List.mem_cons.1 hr with rfl | hr
    · exact ⟨_, List.mem_cons_self, rfl⟩
    · obtain ⟨x, hx, he⟩ := ih.2 r hr; exact ⟨x, List.mem_cons_of_mem _ hx, he⟩
  | case4 p a q b hlt ih =>
    refine ⟨fun r hr => ?_, fun r hr => ?_⟩
    · rcases List.mem_cons.1 hr with rfl | hr
      · exact ⟨_, List.mem_cons_self, rfl⟩
      · obtain ⟨x, hx, he⟩ := ih.1 r hr; exact ⟨x, List.mem_cons_of_mem _ hx, he⟩
    · obtain ⟨x, hx, he⟩ := ih.2 r hr; exact ⟨x, List.mem_cons_of_mem _ hx, he⟩
  | case5 p a q b hlt hgt ih =>
    refine ⟨fun r hr => ?_, fun r hr => ?_⟩
    · obtain ⟨x, hx, he⟩ := ih.1 r hr; exact ⟨x, List.mem_cons_of_mem _ hx, he⟩
    · rcases List.mem_cons.1 hr with rfl | hr
      · exact ⟨_, List.mem_cons_self, rfl⟩
      · obtain ⟨x, hx, he⟩ := ih.2 r hr; exact ⟨x, List.mem_cons_of_mem _ hx, he⟩
  | case6 p a q b hlt hgt ih =>
    have hpq : p.1 = q.1 := by omega
    refine ⟨fun r hr => ?_, fun r hr => ?_⟩
    · rcases List.mem_cons.1 hr with rfl | hr
      · exact ⟨_, List.mem_cons_self, hpq.symm⟩
      · obtain ⟨x, hx, he⟩ := ih.1 r hr; exact ⟨x, List.mem_cons_of_mem _ hx, he⟩
    · rcases List.mem_cons.1 hr with rfl | hr
      · exact ⟨_, List.mem_cons_self, rfl⟩
      · obtain ⟨x, hx, he⟩ := ih.2 r hr; exact ⟨x, List.mem_cons_of_mem _ hx, he⟩
theorem getL_below {l : Lab} {c : Int} (h : ∀ p ∈ l, c < p.1) : getL l c = 2 := getL_out fun p hp => by have := h p hp; omega
theorem mergeB_val {a b : Lab} (ha : SortedP a) (hb : SortedP b) : ∀ x ∈ q3i a b, x.2 = (getL a x.1, getL b x.1) := by
  fun_induction q3i a b with
  | case1 => simp
  | case2 p a ih =>
    intro x hx
    have hs := mergeB_sorted ha hb
    rcases List.mem_cons.1 hx with rfl | hx
    · simp only; rw [q7d, getL_nil]
    · rw [ih ha.tail hb x hx]
      rcases q4t hx with ⟨q, hq, he⟩ | ⟨q, hq, he⟩
      · have := ha.head q hq; rw [q7c (by omega)]
      · simp at hq
  | case3 q b ih =>
    intro x hx
    rcases List.mem_cons.1 hx with rfl | hx
    · simp only; rw [q7d, getL_nil]
    · rw [ih ha hb.tail x hx]
      rcases q4t hx with ⟨r, hr, he⟩ | ⟨r, hr, he⟩
      · simp at hr
      · have := hb.head r hr; rw [q7c (by omega)]
  | case4 p a q b hlt ih =>
    intro x hx
    rcases List.mem_cons.1 hx with rfl | hx
    · simp only; rw [q7d, getL_below (l := q :: b) (fun r hr => by
        rcases List.mem_cons.1 hr with rfl | hr
        · omega
        · have := hb.head r hr; omega)]
    · rw [ih ha.tail hb x hx]
      have hlt2 : p.1 < x.1 := by
        rcases q4t hx with ⟨r, hr, he⟩ | ⟨r, hr, he⟩
        · have := ha.head r hr; omega
        · rcases List.mem_cons.1 hr with rfl | hr
          · omega
          · have := hb.head r hr; omega
      rw [q7c (p := p) (by omega)]
  | case5 p a q b hlt hgt ih =>
    intro x hx
    rcases List.mem_cons.1 hx with rfl | hx
    · simp only; rw [q7d, getL_below (l := p :: a) (fun r hr => by
        rcases List.mem_cons.1 hr with rfl | hr
        · omega
        · have := ha.head r hr; omega)]
    · rw [ih ha hb.tail x hx]
      have hlt2 : q.1 < x.1 := by
        rcases q4t hx with ⟨r, hr, he⟩ | ⟨r, hr, he⟩
        · rcases List.mem_cons.1 hr with rfl | hr
          · omega
          · have := ha.head r hr; omega
        · have := hb.head r hr; omega
      rw [q7c (p := q) (by omega)]
  | case6 p a q b hlt hgt ih =>
    have hpq : p.1 = q.1 := by omega
    intro x hx
    rcases List.mem_cons.1 hx with rfl | hx
    · simp only; rw [q7d, ← hpq, q7d]
    · rw [ih ha.tail hb.tail x hx]
      have hlt2 : q.1 < x.1 := by
        rcases q4t hx with ⟨r, hr, he⟩ | ⟨r, hr, he⟩
        · have := ha.head r hr; omega
        · have := hb.head r hr; omega
      rw [q7c (p := q) (by omega), q7c (p := p) (by omega)]
theorem merge_or {a b : Lab} (ha : SortedP a) (hb : SortedP b) (c : Int) : (∃ x ∈ q3i a b, x.1 = c ∧ x.2 = (getL a c, getL b c)) ∨ ((∀ x ∈ q3i a b, x.1 ≠ c) ∧ getL a c = 2 ∧ getL b c = 2) := by
  by_cases h : ∃ x ∈ q3i a b, x.1 = c
  · obtain ⟨x, hx, rfl⟩ := h
    exact .inl ⟨x, hx, rfl, mergeB_val ha hb x hx⟩
  · have h' : ∀ x ∈ q3i a b, x.1 ≠ c := fun x hx he => h ⟨x, hx, he⟩
    refine .inr ⟨h', getL_out fun p hp he => ?_, getL_out fun q hq he => ?_⟩
    · obtain ⟨x, hx, h2⟩ := mergeB_all.1 p hp; exact h' x hx (by omega)
    · obtain ⟨x, hx, h2⟩ := mergeB_all.2 q hq; exact h' x hx (by omega)
theorem leqB_iff {a b : Lab} (ha : FitL a) (hb : FitL b) : leqB a b = true ↔ ∀ c, getL a c ≤ getL b c := by
  unfold leqB
  rw [List.all_eq_true]
  constructor
  · intro h c
    rcases merge_or ha.sorted hb.sorted c with ⟨x, hx, rfl, he⟩ | ⟨_, h1, h2⟩
    · have := of_decide_eq_true (h x hx)
      rw [he] at this
      simpa only [ofL_get ha, ofL_get hb] using this
    · omega
  · intro h x hx
    have he := mergeB_val ha.sorted hb.sorted x hx
    rw [he]
    simp only [ofL_get ha, ofL_get hb]
    exact decide_eq_true (h x.1)
end Go.Proofs.YteibeoipnjhicaaGreat
