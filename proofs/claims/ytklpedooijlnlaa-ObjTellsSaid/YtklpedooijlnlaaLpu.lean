import Derived.Test.YtklpedooijlnlaaLabRs
namespace Go.Proofs.Ytklpedooijlnlaa
open Go Go.RowKit
set_option linter.unusedVariables false
set_option linter.unusedSimpArgs false
/-! Labels, without a program: category by category (out of LabGet and LabPure). -/
theorem ofL_range (a : Int) : 0 ≤ ofL a ∧ ofL a ≤ 5 := by unfold ofL; split <;> omega
theorem ofL_of {a : Int} (h : 0 ≤ a ∧ a ≤ 5) : ofL a = a := if_pos h
def Sorted (l : Lab) : Prop := ∀ i j (hi : i < l.length) (hj : j < l.length), i < j → l[i].1 < l[j].1
def getL (l : Lab) (c : Int) : Int := match l.find? (fun p => p.1 == c) with
  | some p => p.2
  | none => 2
theorem Sorted.uniq {l : Lab} (h : Sorted l) {i j : Nat} (hi : i < l.length) (hj : j < l.length) (he : l[i].1 = l[j].1) : i = j := by
  rcases Nat.lt_trichotomy i j with hlt | rfl | hlt
  · have := h i j hi hj hlt; omega
  · rfl
  · have := h j i hj hi hlt; omega
theorem getL_at {l : Lab} (h : Sorted l) {i : Nat} (hi : i < l.length) : getL l l[i].1 = l[i].2 := by
  unfold getL
  cases hf : l.find? (fun p => p.1 == l[i].1) with
  | none => rw [List.find?_eq_none] at hf; exact absurd (by simp) (hf l[i] (List.getElem_mem _))
  | some p =>
    have h1 := List.find?_some hf
    obtain ⟨j, hj, rfl⟩ := List.getElem_of_mem (List.mem_of_find?_eq_some hf)
    have : j = i := h.uniq hj hi (by simpa using h1)
    subst this; rfl
theorem getL_none {l : Lab} {c : Int} (h : ∀ i (hi : i < l.length), l[i].1 ≠ c) : getL l c = 2 := by
  unfold getL
  have : l.find? (fun p => p.1 == c) = none := by
    rw [List.find?_eq_none]
    intro p hp
    obtain ⟨j, hj, rfl⟩ := List.getElem_of_mem hp
    simpa using h j hj
  rw [this]
def SortedP (l : Lab) : Prop := l.Pairwise (fun p q => p.1 < q.1)
theorem sorted_iff {l : Lab} : Sorted l ↔ SortedP l := by
  unfold Sorted SortedP
  rw [List.pairwise_iff_getElem]
def sortB : Lab → Bool
  | [] => true
  | p :: t => t.all (fun q => decide (p.1 < q.1)) && sortB t
theorem sortB_iff {l : Lab} : sortB l = true ↔ SortedP l := by
  induction l with
  | nil => simp [sortB, SortedP]
  | cons p t ih => unfold SortedP at ih ⊢; simp only [sortB, Bool.and_eq_true, List.all_eq_true, decide_eq_true_eq, List.pairwise_cons, ih]
theorem sortB_sorted {l : Lab} (h : sortB l = true) : Sorted l := sorted_iff.2 (sortB_iff.1 h)
theorem sortB_of {l : Lab} (h : SortedP l) : sortB l = true := sortB_iff.2 h
/-- A fit label. -/
structure FitL (l : Lab) : Prop where
  sorted : SortedP l
  lev : ∀ p ∈ l, 0 ≤ p.2 ∧ p.2 ≤ 5 ∧ p.2 ≠ 2
theorem getL_nil (c : Int) : getL [] c = 2 := rfl
theorem getL_cons (p : Int × Int) (t : Lab) (c : Int) : getL (p :: t) c = if p.1 = c then p.2 else getL t c := by
  unfold getL
  by_cases h : p.1 = c
  · simp [List.find?_cons, h]
  · have : (p.1 == c) = false := by simpa using h
    simp [List.find?_cons, this, h]
theorem getL_out {l : Lab} {c : Int} (h : ∀ p ∈ l, p.1 ≠ c) : getL l c = 2 := by
  induction l with
  | nil => rfl
  | cons p t ih => rw [getL_cons, if_neg (h p (by simp)), ih (fun q hq => h q (by simp [hq]))]
theorem SortedP.tail {p : Int × Int} {t : Lab} (h : SortedP (p :: t)) : SortedP t := (List.pairwise_cons.1 h).2
theorem SortedP.head {p : Int × Int} {t : Lab} (h : SortedP (p :: t)) : ∀ q ∈ t, p.1 < q.1 := (List.pairwise_cons.1 h).1
theorem getL_head {p : Int × Int} {t : Lab} : getL (p :: t) p.1 = p.2 := by rw [getL_cons, if_pos rfl]
theorem getL_tail {p : Int × Int} {t : Lab} {c : Int} (h : p.1 ≠ c) : getL (p :: t) c = getL t c := by rw [getL_cons, if_neg h]
theorem getL_mem {l : Lab} (h : SortedP l) {p : Int × Int} (hp : p ∈ l) : getL l p.1 = p.2 := by
  obtain ⟨i, hi, rfl⟩ := List.getElem_of_mem hp
  exact getL_at (sorted_iff.2 h) hi
theorem getL_or {l : Lab} (h : SortedP l) (c : Int) : (∃ p ∈ l, p.1 = c ∧ getL l c = p.2) ∨ ((∀ p ∈ l, p.1 ≠ c) ∧ getL l c = 2) := by
  by_cases hx : ∃ p ∈ l, p.1 = c
  · obtain ⟨p, hp, rfl⟩ := hx
    exact .inl ⟨p, hp, rfl, getL_mem h hp⟩
  · have : ∀ p ∈ l, p.1 ≠ c := fun p hp he => hx ⟨p, hp, he⟩
    exact .inr ⟨this, getL_out this⟩
theorem getL_range {l : Lab} (h : FitL l) (c : Int) : 0 ≤ getL l c ∧ getL l c ≤ 5 := by
  rcases getL_or h.sorted c with ⟨p, hp, _, he⟩ | ⟨_, he⟩
  · have := h.lev p hp; omega
  · omega
theorem ofL_get {l : Lab} (h : FitL l) (c : Int) : ofL (getL l c) = getL l c := ofL_of (getL_range h c)
theorem FitL.tail {p : Int × Int} {t : Lab} (h : FitL (p :: t)) : FitL t := ⟨h.sorted.tail, fun q hq => h.lev q (by simp [hq])⟩
theorem lab_ext {l m : Lab} (hl : FitL l) (hm : FitL m) (h : ∀ c, getL l c = getL m c) : l = m := by
  induction l generalizing m with
  | nil =>
    cases m with
    | nil => rfl
    | cons q t =>
      have h1 := h q.1
      rw [getL_head, getL_nil] at h1
      exact absurd h1.symm (hm.lev q (by simp)).2.2
  | cons p t ih =>
    cases m with
    | nil =>
      have h1 := h p.1
      rw [getL_head, getL_nil] at h1
      exact absurd h1 (hl.lev p (by simp)).2.2
    | cons q s =>
      have hp := (hl.lev p (by simp)).2.2
      have hq := (hm.lev q (by simp)).2.2
      have hpq : p.1 = q.1 := by
        rcases Int.lt_trichotomy p.1 q.1 with hlt | he | hlt
        · have h1 := h p.1
          rw [getL_head, getL_out (l := q :: s) (fun r hr => by
            rcases List.mem_cons.1 hr with rfl | hr
            · omega
            · have := hm.sorted.head r hr; omega)] at h1
          exact absurd h1 hp
        · exact he
        · have h1 := h q.1
          rw [getL_head, getL_out (l := p :: t) (fun r hr => by
            rcases List.mem_cons.1 hr with rfl | hr
            · omega
            · have := hl.sorted.head r hr; omega)] at h1
          exact absurd h1.symm hq
      have h2 : p.2 = q.2 := by
        have h1 := h p.1
        rw [getL_head, hpq, getL_head] at h1
        exact h1
      obtain rfl : p = q := Prod.ext hpq h2
      congr 1
      refine ih hl.tail hm.tail fun c => ?_
      by_cases hc : p.1 = c
      · subst hc
        rw [getL_out (fun r hr => by have := hl.sorted.head r hr; omega), getL_out (fun r hr => by have := hm.sorted.head r hr; omega)]
      · have := h c
        rwa [getL_tail hc, getL_tail hc] at this
theorem mergeB_mem {a b : Lab} {x : Int × (Int × Int)} (hx : x ∈ mergeB a b) : (∃ p ∈ a, p.1 = x.1) ∨ (∃ q ∈ b, q.1 = x.1) := by
  fun_induction mergeB a b with
  | case1 => simp at hx
  | case2 p a ih =>
    rcases List.mem_cons.1 hx with rfl | hx
    · exact .inl ⟨p, by simp, rfl⟩
    · rcases ih hx with ⟨q, hq, he⟩ | ⟨q, hq, he⟩
      · exact .inl ⟨q, by simp [hq], he⟩
      · simp at hq
  | case3 q b ih =>
    rcases List.mem_cons.1 hx with rfl | hx
    · exact .inr ⟨q, by simp, rfl⟩
    · rcases ih hx with ⟨p, hp, he⟩ | ⟨p, hp, he⟩
      · simp at hp
      · exact .inr ⟨p, by simp [hp], he⟩
  | case4 p a q b hlt ih =>
    rcases List.mem_cons.1 hx with rfl | hx
    · exact .inl ⟨p, by simp, rfl⟩
    · rcases ih hx with ⟨r, hr, he⟩ | h
      · exact .inl ⟨r, by simp [hr], he⟩
      · exact .inr h
  | case5 p a q b hlt hgt ih =>
    rcases List.mem_cons.1 hx with rfl | hx
    · exact .inr ⟨q, by simp, rfl⟩
    · rcases ih hx with h | ⟨r, hr, he⟩
      · exact .inl h
      · exact .inr ⟨r, by simp [hr], he⟩
  | case6 p a q b hlt hgt ih =>
    rcases List.mem_cons.1 hx with rfl | hx
    · exact .inr ⟨q, by simp, rfl⟩
    · rcases ih hx with ⟨r, hr, he⟩ | ⟨r, hr, he⟩
      · exact .inl ⟨r, by simp [hr], he⟩
      · exact .inr ⟨r, by simp [hr], he⟩
theorem mergeB_sorted {a b : Lab} (ha : SortedP a) (hb : SortedP b) : (mergeB a b).Pairwise (fun x y => x.1 < y.1) := by
  fun_induction mergeB a b with
  | case1 => exact List.Pairwise.nil
  | case2 p a ih =>
    refine List.pairwise_cons.2 ⟨fun y hy => ?_, ih ha.tail hb⟩
    rcases mergeB_mem hy with ⟨q, hq, he⟩ | ⟨q, hq, he⟩
    · have := ha.head q hq; simp only; omega
    · simp at hq
  | case3 q b ih =>
    refine List.pairwise_cons.2 ⟨fun y hy => ?_, ih ha hb.tail⟩
    rcases mergeB_mem hy with ⟨p, hp, he⟩ | ⟨p, hp, he⟩
    · simp at hp
    · have := hb.head p hp; simp only; omega
  | case4 p a q b hlt ih =>
    refine List.pairwise_cons.2 ⟨fun y hy => ?_, ih ha.tail hb⟩
    rcases mergeB_mem hy with ⟨r, hr, he⟩ | ⟨r, hr, he⟩
    · have := ha.head r hr; simp only; omega
    · rcases List.mem_cons.1 hr with rfl | hr
      · simp only; omega
      · have := hb.head r hr; simp only; omega
  | case5 p a q b hlt hgt ih =>
    refine List.pairwise_cons.2 ⟨fun y hy => ?_, ih ha hb.tail⟩
    rcases mergeB_mem hy with ⟨r, hr, he⟩ | ⟨r, hr, he⟩
    · rcases List.mem_cons.1 hr with rfl | hr
      · simp only; omega
      · have := ha.head r hr; simp only; omega
    · have := hb.head r hr; simp only; omega
  | case6 p a q b hlt hgt ih =>
    refine List.pairwise_cons.2 ⟨fun y hy => ?_, ih ha.tail hb.tail⟩
    rcases mergeB_mem hy with ⟨r, hr, he⟩ | ⟨r, hr, he⟩
    · have := ha.head r hr; simp only; omega
    · have := hb.head r hr; simp only; omega
theorem mergeB_all {a b : Lab} : (∀ p ∈ a, ∃ x ∈ mergeB a b, x.1 = p.1) ∧ (∀ q ∈ b, ∃ x ∈ mergeB a b, x.1 = q.1) := by
  fun_induction mergeB a b with
  | case1 => simp
  | case2 p a ih =>
    refine ⟨fun r hr => ?_, fun r hr => by simp at hr⟩
    rcases List.mem_cons.1 hr with rfl | hr
    · exact ⟨_, List.mem_cons_self, rfl⟩
    · obtain ⟨x, hx, he⟩ := ih.1 r hr; exact ⟨x, List.mem_cons_of_mem _ hx, he⟩
  | case3 q b ih =>
    refine ⟨fun r hr => by simp at hr, fun r hr => ?_⟩
    rcases List.mem_cons.1 hr with rfl | hr
    · exact ⟨_, List.mem_cons_self, rfl⟩
    · obtain ⟨x, hx, he⟩ := ih.2 r hr; exact ⟨x, List.mem_cons_of_mem _ hx, he⟩
  | case4 p a q b hlt ih =>
    refine ⟨fun r hr => ?_, fun r hr => ?_⟩
    · rcases List.mem_cons.1 hr with rfl | hr
      · exact ⟨_, List.mem_cons_self, rfl⟩
      · obtain ⟨x, hx, he⟩ := ih.1 r hr; exact ⟨x, List.mem_cons_of_mem _ hx, he⟩
    · obtain ⟨x, hx, he⟩ := ih.2 r hr; exact ⟨x, List.mem_cons_of_mem _ hx, he⟩
  | case5 p a q b hlt hgt ih =>
    refine ⟨fun r hr => ?_, fun r hr => ?_⟩
    · obtain ⟨x, hx, he⟩ := ih.1 r hr; exact ⟨x, List.mem_cons_of_mem _ hx, he⟩
    · rcases List.mem_cons.1 hr with rfl | hr
      · exact ⟨_, List.mem_cons_self, rfl⟩
      · obtain ⟨x, hx, he⟩ := ih.2 r hr; exact ⟨x, List.mem_cons_of_mem _ hx, he⟩
  | case6 p a q b hlt hgt ih =>
    have hpq : p.1 = q.1 := by omega
    refine ⟨fun r hr => ?_, fun r hr => ?_⟩
    · rcases List.mem_cons.1 hr with rfl | hr
      · exact ⟨_, List.mem_cons_self, hpq.symm⟩
      · obtain ⟨x, hx, he⟩ := ih.1 r hr; exact ⟨x, List.mem_cons_of_mem _ hx, he⟩
    · rcases List.mem_cons.1 hr with rfl | hr
      · exact ⟨_, List.mem_cons_self, rfl⟩
      · obtain ⟨x, hx, he⟩ := ih.2 r hr; exact ⟨x, List.mem_cons_of_mem _ hx, he⟩
theorem getL_below {l : Lab} {c : Int} (h : ∀ p ∈ l, c < p.1) : getL l c = 2 := getL_out fun p hp => by have := h p hp; omega
theorem mergeB_val {a b : Lab} (ha : SortedP a) (hb : SortedP b) : ∀ x ∈ mergeB a b, x.2 = (getL a x.1, getL b x.1) := by
  fun_induction mergeB a b with
  | case1 => simp
  | case2 p a ih =>
    intro x hx
    have hs := mergeB_sorted ha hb
    rcases List.mem_cons.1 hx with rfl | hx
    · simp only; rw [getL_head, getL_nil]
    · rw [ih ha.tail hb x hx]
      rcases mergeB_mem hx with ⟨q, hq, he⟩ | ⟨q, hq, he⟩
      · have := ha.head q hq; rw [getL_tail (by omega)]
      · simp at hq
  | case3 q b ih =>
    intro x hx
    rcases List.mem_cons.1 hx with rfl | hx
    · simp only; rw [getL_head, getL_nil]
    · rw [ih ha hb.tail x hx]
      rcases mergeB_mem hx with ⟨r, hr, he⟩ | ⟨r, hr, he⟩
      · simp at hr
      · have := hb.head r hr; rw [getL_tail (by omega)]
  | case4 p a q b hlt ih =>
    intro x hx
    rcases List.mem_cons.1 hx with rfl | hx
    · simp only; rw [getL_head, getL_below (l := q :: b) (fun r hr => by
        rcases List.mem_cons.1 hr with rfl | hr
        · omega
        · have := hb.head r hr; omega)]
    · rw [ih ha.tail hb x hx]
      have hlt2 : p.1 < x.1 := by
        rcases mergeB_mem hx with ⟨r, hr, he⟩ | ⟨r, hr, he⟩
        · have := ha.head r hr; omega
        · rcases List.mem_cons.1 hr with rfl | hr
          · omega
          · have := hb.head r hr; omega
      rw [getL_tail (p := p) (by omega)]
  | case5 p a q b hlt hgt ih =>
    intro x hx
    rcases List.mem_cons.1 hx with rfl | hx
    · simp only; rw [getL_head, getL_below (l := p :: a) (fun r hr => by
        rcases List.mem_cons.1 hr with rfl | hr
        · omega
        · have := ha.head r hr; omega)]
    · rw [ih ha hb.tail x hx]
      have hlt2 : q.1 < x.1 := by
        rcases mergeB_mem hx with ⟨r, hr, he⟩ | ⟨r, hr, he⟩
        · rcases List.mem_cons.1 hr with rfl | hr
          · omega
          · have := ha.head r hr; omega
        · have := hb.head r hr; omega
      rw [getL_tail (p := q) (by omega)]
  | case6 p a q b hlt hgt ih =>
    have hpq : p.1 = q.1 := by omega
    intro x hx
    rcases List.mem_cons.1 hx with rfl | hx
    · simp only; rw [getL_head, ← hpq, getL_head]
    · rw [ih ha.tail hb.tail x hx]
      have hlt2 : q.1 < x.1 := by
        rcases mergeB_mem hx with ⟨r, hr, he⟩ | ⟨r, hr, he⟩
        · have := ha.head r hr; omega
        · have := hb.head r hr; omega
      rw [getL_tail (p := q) (by omega), getL_tail (p := p) (by omega)]
theorem merge_or {a b : Lab} (ha : SortedP a) (hb : SortedP b) (c : Int) : (∃ x ∈ mergeB a b, x.1 = c ∧ x.2 = (getL a c, getL b c)) ∨ ((∀ x ∈ mergeB a b, x.1 ≠ c) ∧ getL a c = 2 ∧ getL b c = 2) := by
  by_cases h : ∃ x ∈ mergeB a b, x.1 = c
  · obtain ⟨x, hx, rfl⟩ := h
    exact .inl ⟨x, hx, rfl, mergeB_val ha hb x hx⟩
  · have h' : ∀ x ∈ mergeB a b, x.1 ≠ c := fun x hx he => h ⟨x, hx, he⟩
    refine .inr ⟨h', getL_out fun p hp he => ?_, getL_out fun q hq he => ?_⟩
    · obtain ⟨x, hx, h2⟩ := mergeB_all.1 p hp; exact h' x hx (by omega)
    · obtain ⟨x, hx, h2⟩ := mergeB_all.2 q hq; exact h' x hx (by omega)
theorem foldB_mem {F : Int → Int → Int} {a b : Lab} {p : Int × Int} (hp : p ∈ foldB F a b) : ∃ x ∈ mergeB a b, p = (x.1, F x.2.1 x.2.2) ∧ F x.2.1 x.2.2 ≠ 2 := by
  unfold foldB foldX at hp
  rw [List.mem_filterMap] at hp
  obtain ⟨x, hx, he⟩ := hp
  split at he
  · simp at he
  · rename_i h; simp at he; exact ⟨x, hx, he.symm, h⟩
theorem foldB_sorted (F : Int → Int → Int) {a b : Lab} (ha : SortedP a) (hb : SortedP b) : SortedP (foldB F a b) := by
  unfold foldB foldX SortedP
  refine List.Pairwise.filterMap _ ?_ (mergeB_sorted ha hb)
  intro x y hxy p hp q hq
  split at hp
  · simp at hp
  · split at hq
    · simp at hq
    · simp at hp hq; subst hp; subst hq; exact hxy
theorem fold_get {F : Int → Int → Int} (hF : F 2 2 = 2) {a b : Lab} (ha : SortedP a) (hb : SortedP b) (c : Int) : getL (foldB F a b) c = F (getL a c) (getL b c) := by
  rcases merge_or ha hb c with ⟨x, hx, rfl, he⟩ | ⟨hn, h1, h2⟩
  · have e1 : x.2.1 = getL a x.1 := by rw [he]
    have e2 : x.2.2 = getL b x.1 := by rw [he]
    by_cases h : F x.2.1 x.2.2 = 2
    · rw [← e1, ← e2, h]
      refine getL_out fun p hp hpc => ?_
      obtain ⟨y, hy, rfl, hy2⟩ := foldB_mem hp
      have hv := mergeB_val ha hb y hy
      have : y.1 = x.1 := hpc
      rw [this, ← he] at hv
      rw [hv] at hy2
      exact hy2 h
    · have hm : (x.1, F x.2.1 x.2.2) ∈ foldB F a b := by
        unfold foldB foldX
        rw [List.mem_filterMap]
        exact ⟨x, hx, by rw [if_neg h]⟩
      rw [getL_mem (foldB_sorted F ha hb) hm, e1, e2]
  · rw [h1, h2, hF]
    refine getL_out fun p hp hpc => ?_
    obtain ⟨y, hy, rfl, _⟩ := foldB_mem hp
    exact hn y hy hpc
theorem foldB_fit {F : Int → Int → Int} (hF : ∀ x y, 0 ≤ F x y ∧ F x y ≤ 5) {a b : Lab} (ha : SortedP a) (hb : SortedP b) : FitL (foldB F a b) := by
  refine ⟨foldB_sorted F ha hb, fun p hp => ?_⟩
  obtain ⟨x, hx, rfl, h2⟩ := foldB_mem hp
  exact ⟨(hF _ _).1, (hF _ _).2, h2⟩
theorem leqB_iff {a b : Lab} (ha : FitL a) (hb : FitL b) : leqB a b = true ↔ ∀ c, getL a c ≤ getL b c := by
  unfold leqB
  rw [List.all_eq_true]
  constructor
  · intro h c
    rcases merge_or ha.sorted hb.sorted c with ⟨x, hx, rfl, he⟩ | ⟨_, h1, h2⟩
    · have := of_decide_eq_true (h x hx)
      rw [he] at this
      simpa only [ofL_get ha, ofL_get hb] using this
    · omega
  · intro h x hx
    have he := mergeB_val ha.sorted hb.sorted x hx
    rw [he]
    simp only [ofL_get ha, ofL_get hb]
    exact decide_eq_true (h x.1)
theorem foldB_len (F : Int → Int → Int) (a b : Lab) : (foldB F a b).length ≤ a.length + b.length := Nat.le_trans (foldX_len _ _) (mergeB_len _ _)
theorem raL_range (x : Int) : 0 ≤ raL x ∧ raL x ≤ 5 := by have := ofL_range x; unfold raL; split <;> omega
end Go.Proofs.Ytklpedooijlnlaa
