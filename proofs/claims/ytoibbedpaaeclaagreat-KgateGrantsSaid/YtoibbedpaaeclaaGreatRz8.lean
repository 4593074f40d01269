import Derived.Test.YtoibbedpaaeclaaGreatRz7
import Derived.Test.YtoibbedpaaeclaaGreatRz2
import Derived.Maps.AppendAt
import Derived.Below
import Derived.Deep.Draws
import Derived.Deep.AppendLies
import Derived.OwnWalk
import Derived.Laws.Slices
import Derived.WalkKit
import Derived.KernelRfl
import Derived.RowKit3
import Derived.Deep.LoopGhost
import Derived.WideLaws
import Derived.Laws.BytesArg
import Derived.Laws.MakeOwn
import Derived.Laws.OwnMore
import Derived.Deep.OwnRows
import Derived.Tactics
import Derived.Lib.ConvBytes
import Derived.Deep.Quiet
import Derived.Deep.QuietTactic
import Derived.BigQuiet
import Derived.Laws.CopyRow
import Derived.Laws.IdiomCopy
import Derived.Lib.SliceRun
import Derived.Lib.AppendZerosOnto
import Derived.Lib.Overlaps
import Derived.Laws.NewBlocks
import Derived.Shelf.RegionOpenPlain
import Derived.Test.YtoibbedpaaeclaaGreatRz4
section
namespace Go.Proofs.YtoibbedpaaeclaaGreat
open Go Go.RowKit
set_option linter.unusedVariables false
set_option linter.unusedSimpArgs false
def SortedP (l : Lab) : Prop := l.Pairwise (fun p q => p.1 < q.1)
theorem sorted_iff {l : Lab} : Sorted l ↔ SortedP l := by
  unfold Sorted SortedP
  rw [List.pairwise_iff_getElem]
/-- A fit label. -/
structure FitL (l : Lab) : Prop where
  sorted : SortedP l
  lev : ∀ p ∈ l, 0 ≤ p.2 ∧ p.2 ≤ 5 ∧ p.2 ≠ 2
theorem getL_nil (c : Int) : getL [] c = 2 := rfl
theorem getL_cons (p : Int × Int) (t : Lab) (c : Int) : getL (p :: t) c = if p.1 = c then p.2 else getL t c := by
  unfold getL
  by_cases h : p.1 = c
  · simp [List.find?_cons, h]
  · have : (p.1 == c) = false := by simpa using h
    simp [List.find?_cons, this, h]
theorem q5s {l : Lab} {c : Int} (h : ∀ p ∈ l, p.1 ≠ c) : getL l c = 2 := by
  induction l with
  | nil => rfl
  | cons p t ih => rw [getL_cons, if_neg (h p (by simp)), ih (fun q hq => h q (by simp [hq]))]
theorem SortedP.tail {p : Int × Int} {t : Lab} (h : SortedP (p :: t)) : SortedP t := (List.pairwise_cons.1 h).2
theorem SortedP.head {p : Int × Int} {t : Lab} (h : SortedP (p :: t)) : ∀ q ∈ t, p.1 < q.1 := (List.pairwise_cons.1 h).1
theorem q4i {p : Int × Int} {t : Lab} : getL (p :: t) p.1 = p.2 := by rw [getL_cons, if_pos rfl]
theorem q5v {p : Int × Int} {t : Lab} {c : Int} (h : p.1 ≠ c) : getL (p :: t) c = getL t c := by rw [getL_cons, if_neg h]
theorem q9m {l : Lab} (h : SortedP l) {p : Int × Int} (hp : p ∈ l) : getL l p.1 = p.2 := by
  obtain ⟨i, hi, rfl⟩ := List.getElem_of_mem hp
  exact getL_at (sorted_iff.2 h) hi
theorem getL_or {l : Lab} (h : SortedP l) (c : Int) : (∃ p ∈ l, p.1 = c ∧ getL l c = p.2) ∨ ((∀ p ∈ l, p.1 ≠ c) ∧ getL l c = 2) := by
  by_cases hx : ∃ p ∈ l, p.1 = c
  · obtain ⟨p, hp, rfl⟩ := hx
    exact .inl ⟨p, hp, rfl, q9m h hp⟩
  · have : ∀ p ∈ l, p.1 ≠ c := fun p hp he => hx ⟨p, hp, he⟩
    exact .inr ⟨this, q5s this⟩
theorem q9l {l : Lab} (h : FitL l) (c : Int) : 0 ≤ getL l c ∧ getL l c ≤ 5 := by
  rcases getL_or h.sorted c with ⟨p, hp, _, he⟩ | ⟨_, he⟩
  · have := h.lev p hp; omega
  · omega
theorem q8q {l : Lab} (h : FitL l) (c : Int) : ofL (getL l c) = getL l c := ofL_of (q9l h c)
theorem FitL.tail {p : Int × Int} {t : Lab} (h : FitL (p :: t)) : FitL t := ⟨h.sorted.tail, fun q hq => h.lev q (by simp [hq])⟩
theorem lab_ext {l m : Lab} (hl : FitL l) (hm : FitL m) (h : ∀ c, getL l c = getL m c) : l = m := by
  induction l generalizing m with
  | nil =>
    cases m with
    | nil => rfl
    | cons q t =>
      have h1 := h q.1
      rw [q4i, getL_nil] at h1
      exact absurd h1.symm (hm.lev q (by simp)).2.2
  | cons p t ih =>
    cases m with
    | nil =>
      have h1 := h p.1
      rw [q4i, getL_nil] at h1
      exact absurd h1 (hl.lev p (by simp)).2.2
    | cons q s =>
      have hp := (hl.lev p (by simp)).2.2
      have hq := (hm.lev q (by simp)).2.2
      have hpq : p.1 = q.1 := by
        rcases Int.lt_trichotomy p.1 q.1 with hlt | he | hlt
        · have h1 := h p.1
          rw [q4i, q5s (l := q :: s) (fun r hr => by
            rcases List.mem_cons.1 hr with rfl | hr
            · omega
            · have := hm.sorted.head r hr; omega)] at h1
          exact absurd h1 hp
        · exact he
        · have h1 := h q.1
          rw [q4i, q5s (l := p :: t) (fun r hr => by
            rcases List.mem_cons.1 hr with rfl | hr
            · omega
            · have := hl.sorted.head r hr; omega)] at h1
          exact absurd h1.symm hq
      have h2 : p.2 = q.2 := by
        have h1 := h p.1
        rw [q4i, hpq, q4i] at h1
        exact h1
      obtain rfl : p = q := Prod.ext hpq h2
      congr 1
      refine ih hl.tail hm.tail fun c => ?_
      by_cases hc : p.1 = c
      · subst hc
        rw [q5s (fun r hr => by have := hl.sorted.head r hr; omega), q5s (fun r hr => by have := hm.sorted.head r hr; omega)]
      · have := h c
        rwa [q5v hc, q5v hc] at this
theorem q4k {a b : Lab} {x : Int × (Int × Int)} (hx : x ∈ q2f a b) : (∃ p ∈ a, p.1 = x.1) ∨ (∃ q ∈ b, q.1 = x.1) := by
  fun_induction q2f a b with
  | case1 => simp at hx
  | case2 p a ih =>
    rcases List.mem_cons.1 hx with rfl | hx
    · exact .inl ⟨p, by simp, rfl⟩
    · rcases ih hx with ⟨q, hq, he⟩ | ⟨q, hq, he⟩
      · exact .inl ⟨q, by simp [hq], he⟩
      · simp at hq
  | case3 q b ih =>
    rcases List.mem_cons.1 hx with rfl | hx
    · exact .inr ⟨q, by simp, rfl⟩
    · rcases ih hx with ⟨p, hp, he⟩ | ⟨p, hp, he⟩
      · simp at hp
      · exact .inr ⟨p, by simp [hp], he⟩
  | case4 p a q b hlt ih =>
    rcases List.mem_cons.1 hx with rfl | hx
    · exact .inl ⟨p, by simp, rfl⟩
    · rcases ih hx with ⟨r, hr, he⟩ | h
      · exact .inl ⟨r, by simp [hr], he⟩
      · exact .inr h
  | case5 p a q b hlt hgt ih =>
    rcases List.mem_cons.1 hx with rfl | hx
    · exact .inr ⟨q, by simp, rfl⟩
    · rcases ih hx with h | ⟨r, hr, he⟩
      · exact .inl h
      · exact .inr ⟨r, by simp [hr], he⟩
  | case6 p a q b hlt hgt ih =>
    rcases List.mem_cons.1 hx with rfl | hx
    · exact .inr ⟨q, by simp, rfl⟩
    · rcases ih hx with ⟨r, hr, he⟩ | ⟨r, hr, he⟩
      · exact .inl ⟨r, by simp [hr], he⟩
      · exact .inr ⟨r, by simp [hr], he⟩
theorem x0s {a b : Lab} (ha : SortedP a) (hb : SortedP b) : (q2f a b).Pairwise (fun x y => x.1 < y.1) := by
  fun_induction q2f a b with
  | case1 => exact List.Pairwise.nil
  | case2 p a ih =>
    refine List.pairwise_cons.2 ⟨fun y hy => ?_, ih ha.tail hb⟩
    rcases q4k hy with ⟨q, hq, he⟩ | ⟨q, hq, he⟩
    · have := ha.head q hq; simp only; omega
    · simp at hq
  | case3 q b ih =>
    refine List.pairwise_cons.2 ⟨fun y hy => ?_, ih ha hb.tail⟩
    rcases q4k hy with ⟨p, hp, he⟩ | ⟨p, hp, he⟩
    · simp at hp
    · have := hb.head p hp; simp only; omega
  | case4 p a q b hlt ih =>
    refine List.pairwise_cons.2 ⟨fun y hy => ?_, ih ha.tail hb⟩
    rcases q4k hy with ⟨r, hr, he⟩ | ⟨r, hr, he⟩
    · have := ha.head r hr; simp only; omega
    · rcases List.mem_cons.1 hr with rfl | hr
      · simp only; omega
      · have := hb.head r hr; simp only; omega
  | case5 p a q b hlt hgt ih =>
    refine List.pairwise_cons.2 ⟨fun y hy => ?_, ih ha hb.tail⟩
    rcases q4k hy with ⟨r, hr, he⟩ | ⟨r, hr, he⟩
    · rcases List.mem_cons.1 hr with rfl | hr
      · simp only; omega
      · have := ha.head r hr; simp only; omega
    · have := hb.head r hr; simp only; omega
  | case6 p a q b hlt hgt ih =>
    refine List.pairwise_cons.2 ⟨fun y hy => ?_, ih ha.tail hb.tail⟩
    rcases q4k hy with ⟨r, hr, he⟩ | ⟨r, hr, he⟩
    · have := ha.head r hr; simp only; omega
    · have := hb.head r hr; simp only; omega
theorem mergeB_all {a b : Lab} : (∀ p ∈ a, ∃ x ∈ q2f a b, x.1 = p.1) ∧ (∀ q ∈ b, ∃ x ∈ q2f a b, x.1 = q.1) := by
  fun_induction q2f a b with
  | case1 => simp
  | case2 p a ih =>
    refine ⟨fun r hr => ?_, fun r hr => by simp at hr⟩
    rcases List.mem_cons.1 hr with rfl | hr
    · exact ⟨_, List.mem_cons_self, rfl⟩
    · obtain ⟨x, hx, he⟩ := ih.1 r hr; exact ⟨x, List.mem_cons_of_mem _ hx, he⟩
  | case3 q b ih =>
    refine ⟨fun r hr => by simp at hr, fun r hr => ?_⟩
    rcases List.mem_cons.1 hr with rfl | hr
    · exact ⟨_, List.mem_cons_self, rfl⟩
    · obtain ⟨x, hx, he⟩ := ih.2 r hr; exact ⟨x, List.mem_cons_of_mem _ hx, he⟩
  | case4 p a q b hlt ih =>
    refine ⟨fun r hr => ?_, fun r hr => ?_⟩
    · rcases List.mem_cons.1 hr with rfl | hr
      · exact ⟨_, List.mem_cons_self, rfl⟩
      · obtain ⟨x, hx, he⟩ := ih.1 r hr; exact ⟨x, List.mem_cons_of_mem _ hx, he⟩
    · obtain ⟨x, hx, he⟩ := ih.2 r hr; exact ⟨x, List.mem_cons_of_mem _ hx, he⟩
  | case5 p a q b hlt hgt ih =>
    refine ⟨fun r hr => ?_, fun r hr => ?_⟩
    · obtain ⟨x, hx, he⟩ := ih.1 r hr; exact ⟨x, List.mem_cons_of_mem _ hx, he⟩
    · rcases List.mem_cons.1 hr with rfl | hr
      · exact ⟨_, List.mem_cons_self, rfl⟩
      · obtain ⟨x, hx, he⟩ := ih.2 r hr; exact ⟨x, List.mem_cons_of_mem _ hx, he⟩
  | case6 p a q b hlt hgt ih =>
    have hpq : p.1 = q.1 := by omega
    refine ⟨fun r hr => ?_, fun r hr => ?_⟩
    · rcases List.mem_cons.1 hr with rfl | hr
      · exact ⟨_, List.mem_cons_self, hpq.symm⟩
      · obtain ⟨x, hx, he⟩ := ih.1 r hr; exact ⟨x, List.mem_cons_of_mem _ hx, he⟩
    · rcases List.mem_cons.1 hr with rfl | hr
      · exact ⟨_, List.mem_cons_self, rfl⟩
      · obtain ⟨x, hx, he⟩ := ih.2 r hr; exact ⟨x, List.mem_cons_of_mem _ hx, he⟩
theorem getL_below {l : Lab} {c : Int} (h : ∀ p ∈ l, c < p.1) : getL l c = 2 := q5s fun p hp => by have := h p hp; omega
theorem mergeB_val {a b : Lab} (ha : SortedP a) (hb : SortedP b) : ∀ x ∈ q2f a b, x.2 = (getL a x.1, getL b x.1) := by
  fun_induction q2f a b with
  | case1 => simp
  | case2 p a ih =>
    intro x hx
    have hs := x0s ha hb
    rcases List.mem_cons.1 hx with rfl | hx
    · simp only; rw [q4i, getL_nil]
    · rw [ih ha.tail hb x hx]
      rcases q4k hx with ⟨q, hq, he⟩ | ⟨q, hq, he⟩
      · have := ha.head q hq; rw [q5v (by omega)]
      · simp at hq
  | case3 q b ih =>
    intro x hx
    rcases List.mem_cons.1 hx with rfl | hx
    · simp only; rw [q4i, getL_nil]
    · rw [ih ha hb.tail x hx]
      rcases q4k hx with ⟨r, hr, he⟩ | ⟨r, hr, he⟩
      · simp at hr
      · have := hb.head r hr; rw [q5v (by omega)]
  | case4 p a q b hlt ih =>
    intro x hx
    rcases List.mem_cons.1 hx with rfl | hx
    · simp only; rw [q4i, getL_below (l := q :: b) (fun r hr => by
        rcases List.mem_cons.1 hr with rfl | hr
        · omega
        · have := hb.head r hr; omega)]
    · rw [ih ha.tail hb x hx]
      have hlt2 : p.1 < x.1 := by
        rcases q4k hx with ⟨r, hr, he⟩ | ⟨r, hr, he⟩
        · have := ha.head r hr; omega
        · rcases List.mem_cons.1 hr with rfl | hr
          · omega
          · have := hb.head r hr; omega
      rw [q5v (p := p) (by omega)]
  | case5 p a q b hlt hgt ih =>
    intro x hx
    rcases List.mem_cons.1 hx with rfl | hx
    · simp only; rw [q4i, getL_below (l := p :: a) (fun r hr => by
        rcases List.mem_cons.1 hr with rfl | hr
        · omega
        · have := ha.head r hr; omega)]
    · rw [ih ha hb.tail x hx]
      have hlt2 : q.1 < x.1 := by
        rcases q4k hx with ⟨r, hr, he⟩ | ⟨r, hr, he⟩
        · rcases List.mem_cons.1 hr with rfl | hr
          · omega
          · have := ha.head r hr; omega
        · have := hb.head r hr; omega
      rw [q5v (p := q) (by omega)]
  | case6 p a q b hlt hgt ih =>
    have hpq : p.1 = q.1 := by omega
    intro x hx
    rcases List.mem_cons.1 hx with rfl | hx
    · simp only; rw [q4i, ← hpq, q4i]
    · rw [ih ha.tail hb.tail x hx]
      have hlt2 : q.1 < x.1 := by
        rcases q4k hx with ⟨r, hr, he⟩ | ⟨r, hr, he⟩
        · have := ha.head r hr; omega
        · have := hb.head r hr; omega
      rw [q5v (p := q) (by omega), q5v (p := p) (by omega)]
theorem merge_or {a b : Lab} (ha : SortedP a) (hb : SortedP b) (c : Int) : (∃ x ∈ q2f a b, x.1 = c ∧ x.2 = (getL a c, getL b c)) ∨ ((∀ x ∈ q2f a b, x.1 ≠ c) ∧ getL a c = 2 ∧ getL b c = 2) := by
  by_cases h : ∃ x ∈ q2f a b, x.1 = c
  · obtain ⟨x, hx, rfl⟩ := h
    exact .inl ⟨x, hx, rfl, mergeB_val ha hb x hx⟩
  · have h' : ∀ x ∈ q2f a b, x.1 ≠ c := fun x hx he => h ⟨x, hx, he⟩
    refine .inr ⟨h', q5s fun p hp he => ?_, q5s fun q hq he => ?_⟩
    · obtain ⟨x, hx, h2⟩ := mergeB_all.1 p hp; exact h' x hx (by omega)
    · obtain ⟨x, hx, h2⟩ := mergeB_all.2 q hq; exact h' x hx (by omega)
theorem foldB_mem {F : Int → Int → Int} {a b : Lab} {p : Int × Int} (hp : p ∈ q7y F a b) : ∃ x ∈ q2f a b, p = (x.1, F x.2.1 x.2.2) ∧ F x.2.1 x.2.2 ≠ 2 := by
  unfold q7y q9t at hp
  rw [List.mem_filterMap] at hp
  obtain ⟨x, hx, he⟩ := hp
  split at he
  · simp at he
  · rename_i h; simp at he; exact ⟨x, hx, he.symm, h⟩
theorem foldB_sorted (F : Int → Int → Int) {a b : Lab} (ha : SortedP a) (hb : SortedP b) : SortedP (q7y F a b) := by
  unfold q7y q9t SortedP
  refine List.Pairwise.filterMap _ ?_ (x0s ha hb)
  intro x y hxy p hp q hq
  split at hp
  · simp at hp
  · split at hq
    · simp at hq
    · simp at hp hq; subst hp; subst hq; exact hxy
theorem fold_get {F : Int → Int → Int} (hF : F 2 2 = 2) {a b : Lab} (ha : SortedP a) (hb : SortedP b) (c : Int) : getL (q7y F a b) c = F (getL a c) (getL b c) := by
  rcases merge_or ha hb c with ⟨x, hx, rfl, he⟩ | ⟨hn, h1, h2⟩
  · have e1 : x.2.1 = getL a x.1 := by rw [he]
    have e2 : x.2.2 = getL b x.1 := by rw [he]
    by_cases h : F x.2.1 x.2.2 = 2
    · rw [← e1, ← e2, h]
      refine q5s fun p hp hpc => ?_
      obtain ⟨y, hy, rfl, hy2⟩ := foldB_mem hp
      have hv := mergeB_val ha hb y hy
      have : y.1 = x.1 := hpc
      rw [this, ← he] at hv
      rw [hv] at hy2
      exact hy2 h
    · have hm : (x.1, F x.2.1 x.2.2) ∈ q7y F a b := by
        unfold q7y q9t
        rw [List.mem_filterMap]
        exact ⟨x, hx, by rw [if_neg h]⟩
      rw [q9m (foldB_sorted F ha hb) hm, e1, e2]
  · rw [h1, h2, hF]
    refine q5s fun p hp hpc => ?_
    obtain ⟨y, hy, rfl, _⟩ := foldB_mem hp
    exact hn y hy hpc
theorem foldB_fit {F : Int → Int → Int} (hF : ∀ x y, 0 ≤ F x y ∧ F x y ≤ 5) {a b : Lab} (ha : SortedP a) (hb : SortedP b) : FitL (q7y F a b) := by
  refine ⟨foldB_sorted F ha hb, fun p hp => ?_⟩
  obtain ⟨x, hx, rfl, h2⟩ := foldB_mem hp
  exact ⟨(hF _ _).1, (hF _ _).2, h2⟩
theorem leqB_iff {a b : Lab} (ha : FitL a) (hb : FitL b) : leqB a b = true ↔ ∀ c, getL a c ≤ getL b c := by
  unfold leqB
  rw [List.all_eq_true]
  constructor
  · intro h c
    rcases merge_or ha.sorted hb.sorted c with ⟨x, hx, rfl, he⟩ | ⟨_, h1, h2⟩
    · have := of_decide_eq_true (h x hx)
      rw [he] at this
      simpa only [q8q ha, q8q hb] using this
    · omega
  · intro h x hx
    have he := mergeB_val ha.sorted hb.sorted x hx
    rw [he]
    simp only [q8q ha, q8q hb]
    exact decide_eq_true (h x.1)
theorem foldB_len (F : Int → Int → Int) (a b : Lab) : (q7y F a b).length ≤ a.length + b.length := Nat.le_trans (foldX_len _ _) (mergeB_len _ _)
theorem upL_range (x y : Int) : 0 ≤ upL x y ∧ upL x y ≤ 5 := by have := q6k x; have := q6k y; unfold upL; split <;> omega
theorem raL_range (x : Int) : 0 ≤ raL x ∧ raL x ≤ 5 := by have := q6k x; unfold raL; split <;> omega
theorem loL_range (x : Int) : 0 ≤ loL x ∧ loL x ≤ 5 := by have := q6k x; unfold loL; split <;> omega
/-- The greater levels, the lesser ones, without ownership, without what is above all. -/
def joinB (a b : Lab) : Lab := q7y upL a b
def q7h (a : Lab) : Lab := q7y (fun x _ => raL x) a []
def lowerB (a : Lab) : Lab := q7y (fun x _ => loL x) a []
theorem q9i : SortedP [] := List.Pairwise.nil
theorem join_fit {a b : Lab} (ha : FitL a) (hb : FitL b) : FitL (joinB a b) := foldB_fit upL_range ha.sorted hb.sorted
theorem raise_fit {a : Lab} (ha : FitL a) : FitL (q7h a) := foldB_fit (fun x _ => raL_range x) ha.sorted q9i
theorem lower_fit {a : Lab} (ha : FitL a) : FitL (lowerB a) := foldB_fit (fun x _ => loL_range x) ha.sorted q9i
theorem join_get {a b : Lab} (ha : FitL a) (hb : FitL b) (c : Int) : getL (joinB a b) c = max (getL a c) (getL b c) := by
  unfold joinB
  rw [fold_get (by decide) ha.sorted hb.sorted]
  unfold upL
  rw [q8q ha, q8q hb]
  split <;> omega
theorem raise_get {a : Lab} (ha : FitL a) (c : Int) : getL (q7h a) c = if getL a c = 0 then 5 else getL a c := by
  unfold q7h
  rw [fold_get (by decide) ha.sorted q9i]
  unfold raL
  rw [q8q ha]
theorem lower_get {a : Lab} (ha : FitL a) (c : Int) : getL (lowerB a) c = if getL a c = 5 then 0 else getL a c := by
  unfold lowerB
  rw [fold_get (by decide) ha.sorted q9i]
  unfold loL
  rw [q8q ha]
end Go.Proofs.YtoibbedpaaeclaaGreat
end

section

end

section
namespace Go.Proofs.YtoibbedpaaeclaaGreat
open Go Go.RowKit
set_option linter.unusedVariables false
set_option linter.unusedSimpArgs false
theorem q6l {l : List Pr} (h : q2x l = true) {k : Nat} {x : Pr} (hx : l[k]? = some x) : 0 ≤ x.lev ∧ x.lev ≤ 5 ∧ x.lev ≠ 2 ∧ ∀ j, k = j + 1 → ∀ y, l[j]? = some y → y.cat < x.cat := by
  have := allB_iff.1 h k (q3w hx)
  unfold q6a at this
  rw [hx] at this
  simp only [Bool.and_eq_true, q5y, decide_eq_true_eq, Bool.not_eq_true', beq_eq_false_iff_ne, ne_eq] at this
  obtain ⟨⟨⟨h1, h2⟩, h3⟩, h4⟩ := this
  refine ⟨h1, h2, h3, ?_⟩
  rintro j rfl y hy
  simp only [hy, Bool.not_eq_true', decide_eq_false_iff_not] at h4
  omega
theorem q6x {l : List Pr} (h : q2x l = true) : FitL (q2g l) := by
  have adj : ∀ (k : Nat) (x y : Pr), l[k]? = some y → l[k + 1]? = some x → y.cat < x.cat := fun k x y hy hx => (q6l h hx).2.2.2 k rfl y hy
  have far : ∀ (d i : Nat) (x y : Pr), l[i]? = some x → l[i + d + 1]? = some y → x.cat < y.cat := by
    intro d
    induction d with
    | zero => intro i x y hx hy; exact adj i y x hx hy
    | succ d ih =>
      intro i x y hx hy
      obtain ⟨z, hz⟩ := q2b (by have := q3w hy; omega : i + d + 1 < l.length)
      have h1 := ih i x z hx hz
      have h2 := adj (i + d + 1) y z hz (by rw [show i + d + 1 + 1 = i + (d + 1) + 1 by omega]; exact hy)
      omega
  refine ⟨sorted_iff.1 ?_, ?_⟩
  · intro i j hi hj hij
    simp only [q2g, List.getElem_map]
    have hi' : i < l.length := by simpa [q2g] using hi
    have hj' : j < l.length := by simpa [q2g] using hj
    exact far (j - i - 1) i _ _ (List.getElem?_eq_getElem hi') (by rw [show i + (j - i - 1) + 1 = j by omega]; exact List.getElem?_eq_getElem hj')
  · intro p hp
    obtain ⟨x, hx, rfl⟩ := List.mem_map.1 hp
    obtain ⟨k, hk⟩ := List.getElem?_of_mem hx
    obtain ⟨h1, h2, h3, _⟩ := q6l h hk
    exact ⟨h1, h2, h3⟩
theorem q4v (l : List Pr) (c : Int) : getL (q2g l) c = q1j l c := by
  unfold getL q1j q2g
  rw [List.find?_map]
  have : ((fun p : Int × Int => p.1 == c) ∘ fun p : Pr => (p.cat, p.lev)) = fun p : Pr => p.cat == c := rfl
  rw [this]
  cases l.find? (fun p => p.cat == c) <;> rfl
theorem q7l {n : Int} (h : 0 ≤ n ∧ n ≤ 5) : q6r n = n := by
  unfold q6r q5y; rw [if_pos]; simp only [Bool.and_eq_true, decide_eq_true_eq]; omega
theorem q9j {x y : Int} (hx : 0 ≤ x ∧ x ≤ 5) (hy : 0 ≤ y ∧ y ≤ 5) : levLeq x y = true ↔ x ≤ y := by
  unfold levLeq; rw [q7l hx, q7l hy, decide_eq_true_eq]
theorem leq_eq {a b : List Pr} (ha : q2x a = true) (hb : q2x b = true) : labLeq a b = leqR a b := by
  have fa := q6x ha
  have fb := q6x hb
  have ra := q9l fa
  have rb := q9l fb
  have ga : ∀ {k : Nat} {x : Pr}, a[k]? = some x → getL (q2g a) x.cat = x.lev := fun hx => q9m fa.sorted (p := (_, _)) (List.mem_map.2 ⟨_, List.mem_of_getElem? hx, rfl⟩)
  have gb : ∀ {k : Nat} {x : Pr}, b[k]? = some x → getL (q2g b) x.cat = x.lev := fun hx => q9m fb.sorted (p := (_, _)) (List.mem_map.2 ⟨_, List.mem_of_getElem? hx, rfl⟩)
  rw [Bool.eq_iff_iff]
  unfold labLeq leqR
  rw [leqB_iff fa fb, Bool.and_eq_true, allB_iff, allB_iff]
  constructor
  · intro h
    refine ⟨fun j hj => ?_, fun j hj => ?_⟩
    · obtain ⟨x, hx⟩ := q2b hj
      obtain ⟨h1, h2, _⟩ := q6l ha hx
      unfold leqAt; rw [hx]; simp only
      rw [← q4v, q9j ⟨h1, h2⟩ (rb _), ← ga hx]
      exact h x.cat
    · obtain ⟨x, hx⟩ := q2b hj
      obtain ⟨h1, h2, _⟩ := q6l hb hx
      unfold geqAt; rw [hx]; simp only
      rw [← q4v, q9j (ra _) ⟨h1, h2⟩, ← gb hx]
      exact h x.cat
  · rintro ⟨h1, h2⟩ c
    rcases getL_or fa.sorted c with ⟨p, hp, rfl, he⟩ | ⟨_, he⟩
    · obtain ⟨x, hx, rfl⟩ := List.mem_map.1 hp
      obtain ⟨k, hk⟩ := List.getElem?_of_mem hx
      have := h1 k (q3w hk)
      obtain ⟨g1, g2, _⟩ := q6l ha hk
      unfold leqAt at this; rw [hk] at this; simp only at this
      rw [← q4v, q9j ⟨g1, g2⟩ (rb _)] at this
      rw [he]; exact this
    · rcases getL_or fb.sorted c with ⟨q, hq, rfl, he2⟩ | ⟨_, he2⟩
      · obtain ⟨x, hx, rfl⟩ := List.mem_map.1 hq
        obtain ⟨k, hk⟩ := List.getElem?_of_mem hx
        have := h2 k (q3w hk)
        obtain ⟨g1, g2, _⟩ := q6l hb hk
        unfold geqAt at this; rw [hk] at this; simp only at this
        rw [← q4v, q9j (ra _) ⟨g1, g2⟩] at this
        rw [he2]; exact this
      · rw [he, he2]; exact Int.le_refl _
theorem merge_nil (l : Lab) : q2f l [] = l.map (fun p => (p.1, (p.2, 2))) := by
  induction l with
  | nil => rw [q2f]; rfl
  | cons p t ih => rw [q2f, ih]; rfl
theorem ofL_levOf (n : Int) : ofL n = q6r n := by
  unfold ofL q6r q5y
  by_cases h : 0 ≤ n ∧ n ≤ 5
  · rw [if_pos h, if_pos (by simp only [Bool.and_eq_true, decide_eq_true_eq]; omega)]
  · rw [if_neg h, if_neg (by simp only [Bool.and_eq_true, decide_eq_true_eq]; omega)]
theorem raL_levUp (n : Int) : raL n = levUp n := by
  unfold raL levUp
  rw [ofL_levOf]
  by_cases h : q6r n = 0
  · rw [if_pos h, if_pos (by rw [h]; rfl)]
  · rw [if_neg h, if_neg (by simpa using h)]
theorem fm_map {α β : Type} (f : α → Option β) (g : α → β) : ∀ (l : List α), (∀ x ∈ l, f x = some (g x)) → l.filterMap f = l.map g
  | [], _ => rfl
  | x :: l, h => by
    rw [List.filterMap_cons, h x (by simp), List.map_cons, fm_map f g l (fun y hy => h y (by simp [hy]))]
theorem q9e {l : List Pr} (h : q2x l = true) : q4c l = l.map upPr := by
  unfold q4c q7y
  rw [merge_nil]
  unfold q9t q2g
  rw [List.map_map, List.filterMap_map, List.map_filterMap]
  refine fm_map _ _ l (fun x hx => ?_)
  obtain ⟨k, hk⟩ := List.getElem?_of_mem hx
  obtain ⟨h1, h2, h3, _⟩ := q6l h hk
  have : raL x.lev ≠ 2 := by unfold raL; rw [ofL_of ⟨h1, h2⟩]; split <;> omega
  have h5 : levUp x.lev ≠ 2 := by rw [← raL_levUp]; exact this
  simp [Function.comp, ofPair, upPr, raL_levUp, h5]
theorem q4z {l : List Pr} (h : kept l = true) : q2x l = true := by
  unfold kept at h; simp only [Bool.and_eq_true] at h; exact h.2.2
theorem labsEq_refl (a : Th) : allB 4 (labsEq a a) = true := q2m fun j _ => decide_eq_true rfl
theorem regsEq_refl (f : Nat → Int) : regsEq f f = true := by unfold regsEq; simp
theorem sameTh_refl (a : Th) : sameTh a a = true := by unfold sameTh; simp [labsEq_refl, regsEq_refl]
theorem sameGt_refl (a : Gt) : sameGt a a = true := by unfold sameGt; simp
theorem q5l (a : Ob) : q8c a a = true := by unfold q8c; simp [sameTh_refl, sameGt_refl]
theorem eqObs_refl (l : List Ob) : eqObs l l = true := by
  unfold eqObs
  rw [decide_eq_true rfl, Bool.true_and]
  refine q2m fun j hj => ?_
  obtain ⟨x, hx⟩ := q2b hj
  unfold eqAt; rw [hx]; exact q5l x
theorem sameWd_refl (w : Wd) : sameWd w w = true := by unfold sameWd; simp [eqObs_refl]
theorem sound_kept {o : Ob} (h : sound o = true) : kept o.label = true := by
  unfold sound q6j at h
  simp only [Bool.and_eq_true] at h
  exact h.1.2.2.2.1
theorem shown_eq {o : Ob} (h : sound o = true) : shownOf o = q7g o := by
  unfold shownOf q7g
  rw [q9e (q4z (sound_kept h))]
theorem shown_len {o : Ob} : (q7g o).length = o.label.length := by unfold q7g; split <;> simp
end Go.Proofs.YtoibbedpaaeclaaGreat
end

section
namespace Go.Proofs.YtoibbedpaaeclaaGreat
open Go Go.RowKit Go.Shelf
set_option linter.unusedVariables false
set_option linter.unusedSimpArgs false
/-- An element's cells. -/
abbrev Cl (sz : Nat) := {cs : List Value // cs.length = sz ∧ ∀ v ∈ cs, v.oneCell' = true}
def flat {sz : Nat} (xs : List (Cl sz)) : List Value := xs.flatMap (·.1)
def RdC {sz : Nat} (w : World) (A : Option Addr) (l : List (Cl sz)) : Prop := 0 < l.length → ∃ ad, A = some ad ∧ ∀ j v, (flat l)[j]? = some v → w.cell? (ad.add j) = some v
theorem RdC.below {sz : Nat} {w w1 : World} {A : Option Addr} {l : List (Cl sz)} (h : RdC w A l) (hb : Below w.heap.size w w1) : RdC w1 A l := fun hl => by
  obtain ⟨ad, e, hc⟩ := h hl
  refine ⟨ad, e, fun j v hj => ?_⟩
  have := hc j v hj
  rw [World.cell?_of_block (w := w) (a := ad.add j) (hb.block _ (World.block_lt_of_cell? w _ this))]; exact this
/-- A row of one's own, of these elements. -/
def RowC {sz : Nat} (e : Nat) (w : World) (base : Nat) (v : Value) (l : List (Cl sz)) : Prop := w.ownsRow base e sz v l.length (flat l)
theorem blk_lt {w : World} {g : Nat} {o : Obj} (h : w.heap[g]? = some o) : g < w.heap.size := (Array.getElem?_eq_some_iff.1 h).1
theorem blk_alloc {w : World} {g : Nat} {o : Obj} (h : w.heap[g]? = some o) (o' : Obj) : (w.alloc o').heap[g]? = some o := (Below.heap_alloc w o' g (blk_lt h)).trans h
/-- A row that has been moved, or not. -/
def SameA (v v' : Value) : Prop := ∃ A n n' c, v = .slice A n c ∧ v' = .slice A n' c
def Mv (w w' : World) (v v' : Value) : Prop := (SameA v v' ∧ w.grownBy w' v.ownBlock) ∨ (v'.ownBlock = some w.heap.size ∧ Below w.heap.size w w')
theorem own_slice {w : World} {base e sz n : Nat} {v : Value} {xs : List Value} (h : w.ownsRow base e sz v n xs) : ∃ A c, v = .slice A n c := by
  rcases h.2 with ⟨rfl, rfl⟩ | ⟨g, cap, cur, rfl, _⟩
  · exact ⟨_, _, rfl⟩
  · exact ⟨_, _, rfl⟩
theorem gb_refl (w : World) (row : Option Nat) : w.grownBy w row := ⟨rfl, rfl, rfl, Nat.le_refl _, fun _ _ _ => rfl⟩
theorem gb_drew {w w1 : World} {row : Option Nat} (h : w.grownBy w1 row) : w.grownBy w1.drew row := ⟨h.os, h.tape, h.output, h.size, h.block⟩
theorem gb_setRow {w w1 : World} {row : Option Nat} (h : w.grownBy w1 row) (g : Nat) (cur : Array Value) (hg : row = some g ∨ w.heap.size ≤ g) : w.grownBy (w1.setRow g cur) row := by
  refine ⟨h.os, h.tape, h.output, by rw [setRow_size]; exact h.size, fun k hk hne => ?_⟩
  rw [setRow_other w1 g k cur (fun e => ?_)]
  · exact h.block k hk hne
  · subst e
    rcases hg with hg | hg
    · exact hne hg.symm
    · omega
section
variable {P : Program} {sz : Nat}
theorem flat_nil : flat ([] : List (Cl sz)) = [] := rfl
theorem q7n (x : Cl sz) (t : List (Cl sz)) : flat (x :: t) = x.1 ++ flat t := by simp [flat]
theorem q5p (a b : List (Cl sz)) : flat (a ++ b) = flat a ++ flat b := by simp [flat]
theorem q5i (xs : List (Cl sz)) : (flat xs).length = xs.length * sz := by
  induction xs with
  | nil => simp [flat]
  | cons x t ih => rw [q7n, List.length_append, x.2.1, ih, List.length_cons, Nat.add_mul, Nat.one_mul, Nat.add_comm]
theorem flat_one (xs : List (Cl sz)) : ∀ v ∈ flat xs, v.oneCell' = true := by
  intro v hv
  unfold flat at hv
  obtain ⟨x, _, hx⟩ := List.mem_flatMap.1 hv
  exact x.2.2 v hx
theorem flat_take (xs : List (Cl sz)) (k : Nat) (hk : k ≤ xs.length) : (flat xs).take (k * sz) = flat (xs.take k) := by
  conv => lhs; rw [← List.take_append_drop k xs, q5p]
  rw [List.take_left' (by rw [q5i, List.length_take]; congr 1; omega)]
theorem flat_drop (xs : List (Cl sz)) (k : Nat) (hk : k ≤ xs.length) : (flat xs).drop (k * sz) = flat (xs.drop k) := by
  conv => lhs; rw [← List.take_append_drop k xs, q5p]
  rw [List.drop_left' (by rw [q5i, List.length_take]; congr 1; omega)]
/-- The row out of its block. -/
theorem flat_block {e : Nat} {w : World} {base g cap : Nat} {cur : Array Value} {xs : List (Cl sz)} (hb : base ≤ g) (hg : w.heap[g]? = some (.cells cur e (0, 0))) (hn : xs.length ≤ cap) (hm : cap ≤ maxLen) (hs : cur.size = cap * sz)
    (ht : cur.toList.take (xs.length * sz) = flat xs) : w.ownsRow base e sz (.slice (some ⟨g, 0, none⟩) xs.length cap) xs.length (flat xs) := ⟨q5i xs, .inr ⟨g, cap, cur, rfl, hb, hg, hn, hm, hs, ht⟩⟩
theorem C_flat {w : World} {A : Option Addr} {xs : List (Cl sz)} (h : RdC w A xs) (ad : Addr) (hA : A = some ad) : ∀ j v, (flat xs)[j]? = some v → w.cell? (ad.add j) = some v := fun j v hj => by
  rcases Nat.eq_zero_or_pos xs.length with h0 | h0
  · have : xs = [] := List.eq_nil_of_length_eq_zero h0
    subst this; simp [flat] at hj
  · obtain ⟨ad', e, hc⟩ := h h0
    obtain rfl : ad' = ad := by rw [hA] at e; exact (Option.some.inj e).symm
    exact hc j v hj
theorem copy_row (w : World) (dT sT ty elem : TypeId) (sz g o dLen dCap : Nat) (a : Addr) (sLen sCap : Nat) (cur : Array Value) (t : TypeId) (cs : List Value)
    (hu : P.underlying dT = some (.slice elem)) (hs : (P.info? elem).map (·.size) = some sz)
    (hg : w.heap[g]? = some (.cells cur t (0, 0))) (hn : cs.length = Nat.min sLen dLen * sz)
    (hsrc : ∀ j v, cs[j]? = some v → w.cell? (a.add j) = some v) (hfit : o + cs.length ≤ cur.size) (h1 : ∀ v ∈ cs, v.oneCell' = true) :
    (Builtin.copy_ #[dT, sT] ty #[.slice (some ⟨g, o, none⟩) dLen dCap, .slice (some a) sLen sCap]).run P w =
      .ok (goInt (Nat.min sLen dLen)) (w.setRow g (cur.toList.take o ++ cs ++ cur.toList.drop (o + cs.length)).toArray) := by
  have hl := run_loadCells_list (P := P) w a cs hsrc
  have hst := run_storeCells_at P g o t cs 0 cur w hg (by simpa using hfit) h1
  simp only [Nat.add_zero] at hst
  cases hq : P.info? elem with
  | none => simp [hq] at hs
  | some i =>
    have hi : i.size = sz := by simpa [hq] using hs
    rw [hn] at hl
    simp [Builtin.copy_, run_underlying hu, Builtin.lenOf, Builtin.firstCells, sizeOf, typeInfo, hq, hi, hl, hst]
/-- The row's cells once some of them are others. -/
theorem seg_take (cur : List Value) (o : Nat) (cs : List Value) (h : o + cs.length ≤ cur.length) (k : Nat) (hk : o + cs.length ≤ k) : (cur.take o ++ cs ++ cur.drop (o + cs.length)).take k = cur.take o ++ cs ++ (cur.take k).drop (o + cs.length) := by
  rw [List.take_append, List.take_of_length_le (by rw [List.length_append, List.length_take]; omega)]
  congr 1
  rw [List.length_append, List.length_take, List.drop_take]
  congr 1; omega
theorem seg_len (cur : List Value) (o : Nat) (cs : List Value) (h : o + cs.length ≤ cur.length) : (cur.take o ++ cs ++ cur.drop (o + cs.length)).length = cur.length := by
  simp only [List.length_append, List.length_take, List.length_drop]; omega
theorem seg_low (cur : List Value) (o : Nat) (cs : List Value) (h : o + cs.length ≤ cur.length) (k : Nat) (hk : k ≤ o) : (cur.take o ++ cs ++ cur.drop (o + cs.length)).take k = cur.take k := by
  rw [List.append_assoc, List.take_append_of_le_length (by rw [List.length_take]; omega), List.take_take]
  congr 1; omega
theorem step_copy {ops : Array Oper} {o : Oper} {a : Act} {w : World} {K : Act → World → Prop} {Q : Exit → Act → World → Prop} {E : Prop}
    (hg : o.guard = none) (x s : Operand) (dT sT : TypeId) (hop : o.op = Op.call { callee := Callee.builtin Builtin.copy, args := #[x, s], argTypes := #[dT, sT] })
    (v u : Value) (hd : a.eval x = v) (hx : a.eval s = u) {v' : Value} {w' : World} (hr : (Builtin.copy_ #[dT, sT] o.type #[v, u]).run P w = .ok v' w') (hK : K (a.put o.dst v') w') :
    if Region.wanted o (yielded ops a.tmps) = true then Oper.wp P o a w K Q else E := by
  have hw : Region.wanted o (yielded ops a.tmps) = true := by simp [Region.wanted, hg]
  rw [if_pos hw]
  unfold Oper.wp
  simp [execOp, hop, resolve, invoke, builtin, hd, hx, hr, Result.andThen]
  exact hK
theorem below_setRow {base : Nat} {w W : World} (h : Below base w W) (g : Nat) (cur : Array Value) (hb : base ≤ g) : Below base w (W.setRow g cur) :=
  ⟨h.os, h.tape, h.output, by simpa using h.size, fun i hi => (setRow_other W g i _ (by omega)).trans (h.block i hi)⟩
theorem append_types (t t' e e' ty : TypeId) (ht : P.underlying t = some (.slice e)) (ht' : P.underlying t' = some (.slice e')) (A : Option Addr) (n c : Nat) (y : Value) (w : World) : (Builtin.append_ #[t, t'] ty #[.slice A n c, y]).run P w = (Builtin.append_ #[t, t] ty #[.slice A n c, y]).run P w := by
  unfold Builtin.append_
  simp [run_underlying ht, run_underlying ht']
theorem q9c (w : World) (g : Nat) (cur cur' : Array Value) (t : TypeId) (fr : Nat × Nat) (hg : w.heap[g]? = some (.cells cur t fr)) : (w.setRow g cur').heap[g]? = some (.cells cur' t fr) := setRow_heap w g cur _ t _ hg
/-- The cells behind an insertion in place: the tail moved up, then the new element. -/
theorem insert_cells {cur : List Value} {l : List (Cl sz)} {x : Cl sz} {cap k : Nat} (hcl : cur.length = cap * sz) (hn : l.length + 1 ≤ cap) (ht : cur.take (l.length * sz) = flat l) (hk : k < l.length)
    {cur1 cur2 : List Value} (h1 : cur1 = cur.take ((k + 1) * sz) ++ flat (l.drop k) ++ cur.drop ((k + 1) * sz + (flat (l.drop k)).length)) (h2 : cur2 = cur1.take (k * sz) ++ x.1 ++ cur1.drop (k * sz + (x.1).length)) :
    (k + 1) * sz + (flat (l.drop k)).length ≤ cur.length ∧ cur1.length = cap * sz ∧ k * sz + (x.1).length ≤ cur1.length ∧ cur2.length = cap * sz ∧ cur2.take ((l.length + 1) * sz) = flat (l.take k ++ x :: l.drop k) := by
  have hfl : (flat (l.drop k)).length = (l.length - k) * sz := by rw [q5i, List.length_drop]
  have hx := x.2.1
  have e0 : (k + 1) * sz = k * sz + sz := Nat.succ_mul _ _
  have e1 : (k + 1) * sz + (l.length - k) * sz = (l.length + 1) * sz := by rw [← Nat.add_mul]; congr 1; omega
  have e3 : (l.length + 1) * sz ≤ cap * sz := Nat.mul_le_mul_right _ hn
  have e4 : k * sz ≤ l.length * sz := Nat.mul_le_mul_right _ (by omega)
  have hb1 : (k + 1) * sz + (flat (l.drop k)).length ≤ cur.length := by rw [hfl, hcl]; omega
  have hl1 : cur1.length = cap * sz := by rw [h1, seg_len _ _ _ hb1, hcl]
  have hb2 : k * sz + (x.1).length ≤ cur1.length := by rw [hx, hl1]; omega
  refine ⟨hb1, hl1, hb2, by rw [h2, seg_len _ _ _ hb2, hl1], ?_⟩
  rw [h2, seg_take _ _ _ hb2 _ (by rw [hx]; omega)]
  have e6 : cur1.take (k * sz) = flat (l.take k) := by
    rw [h1, seg_low _ _ _ hb1 _ (by omega), ← flat_take l k (by omega), ← ht, List.take_take]; congr 1; omega
  have e7 : (cur1.take ((l.length + 1) * sz)).drop (k * sz + (x.1).length) = flat (l.drop k) := by
    rw [h1, seg_take _ _ _ hb1 _ (by rw [hfl]; omega), hfl, e1, List.drop_of_length_le (i := (l.length + 1) * sz) (by rw [List.length_take]; omega), List.append_nil, hx, ← e0]
    rw [List.drop_left' (by rw [List.length_take]; omega)]
  rw [e6, e7, q5p, q7n, List.append_assoc]
/-- The cells of a new row behind an insertion: the head, the new element, the tail. -/
theorem grown_cells {row : List Value} {l : List (Cl sz)} {x : Cl sz} {cap k : Nat} (hcl : row.length = cap * sz) (hn : l.length + 1 ≤ cap) (hk : k < l.length) (ht : row.take (k * sz) = flat (l.take k))
    {cur1 cur2 : List Value} (h1 : cur1 = row.take (k * sz) ++ x.1 ++ row.drop (k * sz + (x.1).length)) (h2 : cur2 = cur1.take ((k + 1) * sz) ++ flat (l.drop k) ++ cur1.drop ((k + 1) * sz + (flat (l.drop k)).length)) :
    k * sz + (x.1).length ≤ row.length ∧ cur1.length = cap * sz ∧ (k + 1) * sz + (flat (l.drop k)).length ≤ cur1.length ∧ cur2.length = cap * sz ∧ cur2.take ((l.length + 1) * sz) = flat (l.take k ++ x :: l.drop k) := by
  have hfl : (flat (l.drop k)).length = (l.length - k) * sz := by rw [q5i, List.length_drop]
  have hx := x.2.1
  have e0 : (k + 1) * sz = k * sz + sz := Nat.succ_mul _ _
  have e1 : (k + 1) * sz + (l.length - k) * sz = (l.length + 1) * sz := by rw [← Nat.add_mul]; congr 1; omega
  have e3 : (l.length + 1) * sz ≤ cap * sz := Nat.mul_le_mul_right _ hn
  have e4 : (k + 1) * sz ≤ (l.length + 1) * sz := Nat.mul_le_mul_right _ (by omega)
  have hb1 : k * sz + (x.1).length ≤ row.length := by rw [hx, hcl]; omega
  have hl1 : cur1.length = cap * sz := by rw [h1, seg_len _ _ _ hb1, hcl]
  have hb2 : (k + 1) * sz + (flat (l.drop k)).length ≤ cur1.length := by rw [hfl, hl1]; omega
  refine ⟨hb1, hl1, hb2, by rw [h2, seg_len _ _ _ hb2, hl1], ?_⟩
  rw [h2, seg_take _ _ _ hb2 _ (by rw [hfl]; omega), hfl, e1, List.drop_of_length_le (i := (l.length + 1) * sz) (by rw [List.length_take]; omega), List.append_nil]
  rw [h1, seg_take _ _ _ hb1 _ (by rw [hx]; omega), hx, ← e0, List.drop_of_length_le (i := (k + 1) * sz) (by rw [List.length_take]; omega), List.append_nil, ht]
  rw [q5p, q7n, List.append_assoc]
/-- One element more, behind a row of one's own: in place, or in a new block. -/
theorem append_own2 (w : World) (base : Nat) (t e : TypeId) (i : TypeInfo) (z : Value) (ty : TypeId) (ht : P.underlying t = some (.slice e)) (hi : P.info? e = some i) (hz : i.zero = some z) (hzs : z.cells.size = i.size) (hpos : 0 < i.size)
    (v : Value) (n : Nat) (xs : List Value) (hown : w.ownsRow base e i.size v n xs) (hbase : base ≤ w.heap.size) (vb cv : Nat) (x : List Value) (hxl : x.length = i.size) (hx1 : ∀ u ∈ x, u.oneCell' = true) (hcell : ∀ j u, x[j]? = some u → w.cell? ((⟨vb, 0, none⟩ : Addr).add j) = some u)
    (hby : (n + 1) * i.bytes ≤ 140737488355328) (hml : n + 1 ≤ maxLen) :
    ∃ v' w', (Builtin.append_ #[t, t] ty #[v, .slice (some ⟨vb, 0, none⟩) 1 cv]).run P w = .ok v' w' ∧ w'.ownsRow base e i.size v' (n + 1) (xs ++ x) ∧
      ((SameA v v' ∧ w.grownBy w' v.ownBlock) ∨ (v'.ownBlock = some w.heap.size ∧ Below w.heap.size w w')) := by
  have h63 : n + 1 ≤ 9223372036854775807 := by simp only [maxLen] at hml; omega
  have hsrc : Src P i.size t (.slice (some ⟨vb, 0, none⟩) 1 cv) 1 x w := Src.ofSlice w ht ⟨vb, 0, none⟩ 1 cv x (by rw [hxl]; simp) hcell hx1
  have grown : ∀ (A : Option Addr) (cap : Nat), v = .slice A n cap → cap < n + 1 → (Builtin.firstCells i.size n v).run P w.drew = .ok xs.toArray w.drew → ∃ v' w', (Builtin.append_ #[t, t] ty #[v, .slice (some ⟨vb, 0, none⟩) 1 cv]).run P w = .ok v' w' ∧ w'.ownsRow base e i.size v' (n + 1) (xs ++ x) ∧
      ((SameA v v' ∧ w.grownBy w' v.ownBlock) ∨ (v'.ownBlock = some w.heap.size ∧ Below w.heap.size w w')) := by
    rintro A cap rfl hcap hold
    have hgr := run_append_grow_src (P := P) w t t ty e i z ht hi hz A n cap xs hold _ 1 x hsrc hcap (by omega) (growslice_fits (by omega) hby)
    have hbel : Below w.heap.size w (w.drew.alloc (.cells ((xs ++ x).toArray ++ Builtin.zeroCells z.cells (grownCap w (n + 1) cap e - (n + 1))) e)) := (Below.refl _ _).drew.alloc (by simp) _
    have hl2 : (xs ++ x).length = (n + 1) * i.size := by rw [List.length_append, hown.1, hxl, Nat.add_mul, Nat.one_mul]
    have hge := grownCap_ge w (n + 1) cap e
    refine ⟨_, _, hgr, ⟨hl2, .inr ⟨w.heap.size, grownCap w (n + 1) cap e, _, rfl, hbase, heap_alloc_new w.drew _, hge, grownCap_le_maxLen w (n + 1) cap e hml, ?_, ?_⟩⟩, .inr ⟨rfl, hbel⟩⟩
    · simp only [Array.size_append, List.size_toArray, size_zeroCells, hzs, hl2, ← Nat.add_mul]
      congr 1
      omega
    · simp only [Array.toList_append]
      rw [← hl2]
      exact List.take_left
  rcases hown.2 with ⟨rfl, rfl⟩ | ⟨g, cap, cur, rfl, hg0, hg, hnc, hcm, hcs, htake⟩
  · have : xs = [] := List.eq_nil_of_length_eq_zero (by have := hown.1; simpa using this)
    subst this
    exact grown none 0 rfl (by omega) (by simp [Builtin.firstCells, loadCells, loadCellsFrom])
  · by_cases hroom : n + 1 ≤ cap
    · have hfit : n * i.size + x.length ≤ cur.size := by rw [hxl, hcs, ← Nat.succ_mul]; exact Nat.mul_le_mul_right _ hroom
      have hr := Go.run_append_room (P := P) w t ty e i ht hi g n cap cur hg ⟨vb, 0, none⟩ 1 cv x (by rw [hxl]; simp) hcell hx1 hroom hfit
      have hl2 : (xs ++ x).length = (n + 1) * i.size := by rw [List.length_append, hown.1, hxl, Nat.add_mul, Nat.one_mul]
      refine ⟨_, _, hr, ⟨hl2, .inr ⟨g, cap, _, rfl, hg0, setRow_heap w g cur _ e (0, 0) hg, hroom, hcm, ?_, ?_⟩⟩, .inl ⟨⟨_, _, _, _, rfl, rfl⟩, gb_setRow (gb_refl _ _) g _ (.inl rfl)⟩⟩
      · simp only [List.size_toArray, List.length_append, List.length_take, List.length_drop, Array.length_toList]; omega
      · rw [← hl2, htake]; exact List.take_left
    · refine grown (some ⟨g, 0, none⟩) cap rfl (by omega) ?_
      refine run_firstCells_some w.drew i.size n ⟨g, 0, none⟩ n cap xs hown.1 (fun j u hj => ?_)
      rw [Addr.add_lit, Nat.zero_add, cell_of_row _ g _ cur _ _ (show w.drew.heap[g]? = some (.cells cur e (0, 0)) from hg)]
      rw [← htake, List.getElem?_take] at hj
      split at hj
      · rw [Array.getElem?_toList] at hj; exact hj
      · cases hj
end
end Go.Proofs.YtoibbedpaaeclaaGreat
end

section
namespace Go.Proofs.YtoibbedpaaeclaaGreat
open Go Go.RowKit
set_option linter.unusedVariables false
set_option linter.unusedSimpArgs false
inductive Fz (H : Heap) : PV → PV → Prop
  | same (p) (h : NoId p) : Fz H p p
  | bs (id n e0 z0 l els sz) (hid : H id = some (.box l)) (hn : els.length = n) (hs : ∀ e ∈ els, e.length = sz) (hl : els.flatten = l.take (n * sz)) (hb : ∀ p ∈ els.flatten, NoId p) : Fz H (.bs id n e0 z0) (.sl els)
  | bz : Fz H .bz (.sl [])
  | agg (l l') (hlen : l.length = l'.length) (h : ∀ (i : Nat) (p q : PV), l[i]? = some p → l'[i]? = some q → Fz H p q) : Fz H (.agg l) (.agg l')
  | tup (l l') (hlen : l.length = l'.length) (h : ∀ (i : Nat) (p q : PV), l[i]? = some p → l'[i]? = some q → Fz H p q) : Fz H (.tup l) (.tup l')
theorem fz_sound {w : World} {M0 : Nat → Nat → Prop} {σ : Nat → Gh} {H : Heap} (h : HR w M0 σ H) {M : Nat → Nat → Prop} {σ' : Nat → Gh} {L' : Nat → Prop} (hM : ∀ b o v, w.cell? ⟨b, o, none⟩ = some v → ¬ MU M0 σ H b o → ¬ M b o) (hown : ∀ id, H id ≠ none → ∀ o, ¬ M (σ id).blk o)
    {v : Value} {p q : PV} (hv : VV w M0 σ H v p) (hf : Fz H p q) : VR w M σ' L' v q := by
  induction hf generalizing v with
  | same p hn => exact hv.bd hM (fun _ h => h.elim) hn
  | bs id n e0 z0 l els sz hid hn hs hl hb =>
    subst hn
    cases hv with
    | bs _ _ _ _ hL h0 hc _ _ =>
      obtain ⟨_, c, t, hg, _, hcr⟩ := h.box id l hid
      have key : ∀ (q : Nat) (p : PV), els.flatten[q]? = some p → ∃ v, c[q]? = some v ∧ VV w M0 σ H v p ∧ v.oneCell' = true := fun q p hq => by
        have hq' : l[q]? = some p := by
          rw [hl, List.getElem?_take] at hq
          split at hq
          · exact hq
          · cases hq
        obtain ⟨v, hv, hr, h1⟩ := hcr.get hq'
        rw [List.getElem?_take] at hv
        split at hv
        · exact ⟨v, by rw [← Array.getElem?_toList]; exact hv, hr, h1⟩
        · cases hv
      refine .sl _ 0 sz _ els hc hs (fun q => (c[q]?).getD undef) (fun q p hq => ?_) (fun q p hq => ?_)
      · obtain ⟨v, hv, hr, h1⟩ := key q p hq
        rw [hv]
        refine ⟨?_, hown id (by rw [hid]; simp) _, h1⟩
        rw [Nat.zero_add, cell_of_row w _ q c t (0, 0) hg]; exact hv
      · obtain ⟨v, hv, hr, h1⟩ := key q p hq
        rw [hv]
        exact hr.bd hM (fun _ h => h.elim) (hb p (q3m hq))
  | bz => cases hv with | bz => exact .sl0 none 0
  | agg l l' hlen hh ih =>
    cases hv with
    | agg cs _ hl h1 hv =>
      refine .agg cs l' (hl.trans hlen) h1 (fun i v q hv' hq => ?_)
      have hi : i < l.length := by rw [hlen]; exact (List.getElem?_eq_some_iff.1 hq).1
      exact ih i _ q (List.getElem?_eq_getElem hi) hq (hv i v _ hv' (List.getElem?_eq_getElem hi))
  | tup l l' hlen hh ih =>
    cases hv with
    | tup cs _ hl hv =>
      refine .tup cs l' (hl.trans hlen) (fun i v q hv' hq => ?_)
      have hi : i < l.length := by rw [hlen]; exact (List.getElem?_eq_some_iff.1 hq).1
      exact ih i _ q (List.getElem?_eq_getElem hi) hq (hv i v _ hv' (List.getElem?_eq_getElem hi))
theorem pure_frz {P : Program} {f : FuncId} {args : List PV} {r : PV} (ha : BdL (fun _ => False) args) (h : CSat P f args (fun _ => none) 0 (fun out H' _ => ∃ r', out = .ret r' ∧ Fz H' r' r)) : Pure P f args r := by
  intro w M σ L vs hM hvl
  have hmu : ∀ (σ' : Nat → Gh) b o, MU M σ' (fun _ => none) b o ↔ M b o := fun σ' b o => by
    refine ⟨fun h => ?_, fun h => .inl h⟩
    rcases h with h | ⟨id, l, h1, _⟩ | ⟨id, e, sz, els, h1, _⟩
    · exact h
    · cases h1
    · cases h1
  have h0 : HR w M σ (fun _ => none) := ⟨hM, fun id h => absurd rfl h, fun i j h => absurd rfl h, fun id l h => (by cases h), fun id e sz els h => (by cases h)⟩
  refine (h w M σ vs h0 (fun _ _ => rfl) ⟨hvl.1, fun i v p hv hp => (hvl.2 i v p hv hp).bd (fun b o u _ h1 h2 => h1 ((hmu σ b o).1 h2)) (fun _ h => h.elim) (ha p (q3m hp))⟩).mono ?_
  rintro e w' ⟨out, H', m', σ', ⟨r', rfl, hz⟩, hr', hfree, _, hf, ho⟩
  cases e with
  | returned v =>
    refine ⟨v, rfl, ?_, ⟨hf.os, hf.tape, hf.output, hf.size, fun b hb => hf.block b hb (fun id h => absurd rfl h)⟩⟩
    exact fz_sound hr' (fun b o u _ h1 h2 => h1 (.inl h2)) (fun id hid o => hr'.sep id hid o) ho hz
  | panicked ch => exact ho.elim
  | outgrown => exact ho.elim
theorem pureF {P : Program} {f : FuncId} {fn : Func} {c : Code} {args : List PV} {r : PV} {rs : List ResultVar} (hm : P.follows .mixedOrders = true) (ha : BdL (fun _ => False) args) (hf : P.funcs[f]? = some fn) (hrs : fn.results = rs.toArray) (hb : fn.body = some c) (hn : args.length ≤ fn.ntmps)
    (hd : q4n fn.ntmps c = true) (h : q0d P 0 c (retQ P rs (fun out H' _ => ∃ r', out = .ret r' ∧ Fz H' r' r)) (q4x args) (fun _ => none) 0) : Pure P f args r := pure_frz ha (CSat_of_pw hm hf hb hn hd (by rw [hrs]; simpa using h))
/-- The common ends. -/
theorem fz_same {H : Heap} {r : PV} (h : Bd (fun _ => False) r) : ∃ r', Out.ret r = .ret r' ∧ Fz H r' r := ⟨r, rfl, .same r h⟩
theorem fz_bs {H : Heap} {id n e0 z0 : Nat} {l : List PV} {els : List (List PV)} (sz : Nat) (hid : H id = some (.box l)) (hn : els.length = n) (hs : ∀ e ∈ els, e.length = sz) (hl : els.flatten = l) (hb : Bd (fun _ => False) (.sl els)) : Fz H (.bs id n e0 z0) (.sl els) := by
  have hfl : els.flatten.length = n * sz := by rw [q1w hs, hn]
  refine .bs id n e0 z0 l els sz hid hn hs (by rw [← hl, ← hfl, List.take_length]) (fun p hp => ?_)
  obtain ⟨e, he, hpe⟩ := List.mem_flatten.1 hp
  cases hb with
  | sl _ hb => exact hb e he p hpe
end Go.Proofs.YtoibbedpaaeclaaGreat
end

section
namespace Go.Proofs.YtoibbedpaaeclaaGreat
open Go Go.RowKit
set_option linter.unusedVariables false
set_option linter.unusedSimpArgs false
section
variable {P : Program} {fn T sz : Nat}
theorem cells_rows : ∀ (n : Nat) (cs : List Value), cs.length = n * sz → (∀ v ∈ cs, v.oneCell' = true) → ∃ l : List (Cl sz), l.length = n ∧ flat l = cs
  | 0, cs, h, _ => by
    have : cs = [] := List.eq_nil_of_length_eq_zero (by simpa using h)
    subst this; exact ⟨[], rfl, rfl⟩
  | n + 1, cs, h, h1 => by
    rw [Nat.succ_mul] at h
    obtain ⟨l, hl, hf⟩ := cells_rows n (cs.drop sz) (by rw [List.length_drop]; omega) (fun v hv => h1 v (List.mem_of_mem_drop hv))
    refine ⟨⟨cs.take sz, by rw [List.length_take]; omega, fun v hv => h1 v (List.mem_of_mem_take hv)⟩ :: l, by simp [hl], ?_⟩
    rw [q7n, hf, List.take_append_drop]
theorem vl_one {w : World} {M σ L} {vs : List Value} {p : PV} (h : VL w M σ L vs [p]) : ∃ v, vs = [v] ∧ VR w M σ L v p := by
  obtain ⟨h1, h2⟩ := h
  match vs, h1 with
  | [v], _ => exact ⟨v, rfl, h2 0 v p rfl rfl⟩
theorem vl_three {w : World} {M σ L} {vs : List Value} {p q r : PV} (h : VL w M σ L vs [p, q, r]) : ∃ a b c, vs = [a, b, c] ∧ VR w M σ L a p ∧ VR w M σ L b q ∧ VR w M σ L c r := by
  obtain ⟨h1, h2⟩ := h
  match vs, h1 with
  | [a, b, c], _ => exact ⟨a, b, c, rfl, h2 0 a p rfl rfl, h2 1 b q rfl rfl, h2 2 c r rfl rfl⟩
def CloneC (P : Program) (fn T sz : Nat) : Prop := ∀ (l : List (Cl sz)) (A : Option Addr) (c : Nat) (w : World), RdC w A l → l.length ≤ c → l.length ≤ 1000000 →
  Calls P fn #[.slice A l.length c] w fun e w' => ∃ v, e = .returned v ∧ RowC T w' w.heap.size v l ∧ Below w.heap.size w w'
/-- The cells that a slice is of. -/
theorem rows_of {w : World} {M0 : Nat → Nat → Prop} {σ : Nat → Gh} {H : Heap} {v : Value} {els : List (List PV)} (hv : VV w M0 σ H v (.sl els)) (hs : ∀ e ∈ els, e.length = sz) :
    ∃ (A : Option Addr) (c : Nat) (l : List (Cl sz)), v = .slice A els.length c ∧ els.length ≤ c ∧ l.length = els.length ∧ RdC w A l ∧ CR w (MU M0 σ H) σ (LV H) (flat l) els.flatten := by
  rcases q7q hv with ⟨rfl, A, cap, rfl⟩ | ⟨b, o, sz', cap, f, rfl, hc, hs', hcell, hh⟩
  · exact ⟨A, cap, [], rfl, Nat.zero_le _, rfl, fun h => absurd h (Nat.lt_irrefl 0), ⟨rfl, fun v hv => (List.not_mem_nil hv).elim, fun i v p hv => by simp [flat] at hv⟩⟩
  · obtain ⟨c1, c2⟩ := cr_flat (sz := sz') hcell hh
    obtain ⟨l, hl, hf⟩ := cells_rows (sz := sz) els.length _ (by rw [c1.len, q1w hs]) c1.one
    refine ⟨_, cap, l, rfl, hc, hl, fun _ => ⟨_, rfl, fun j v hj => ?_⟩, by rw [hf]; exact c1⟩
    rw [hf] at hj
    rw [Addr.add_lit]; exact c2 j v hj
theorem clone_csat (hcl : CloneC P fn T sz) {els : List (List PV)} (hs : ∀ e ∈ els, e.length = sz) (hlen : els.length ≤ 1000000) (H : Heap) (m : Nat) : CSat P fn [.sl els] H m (fun out H' m' =>
    (els = [] ∧ out = .ret .bz ∧ H' = H ∧ m' = m) ∨ (out = .ret (.bs m els.length T sz) ∧ H' = hset H m (some (.box els.flatten)) ∧ m' = m + 1)) := by
  intro w M0 σ vs hr hfree hvl
  obtain ⟨v, rfl, hv⟩ := vl_one hvl
  obtain ⟨A, c, l, rfl, hc, hl, hrd, hcr⟩ := rows_of (sz := sz) hv hs
  rw [← hl] at hc ⊢
  refine (hcl l A c w hrd hc (by omega)).mono ?_
  rintro e w' ⟨v, rfl, ho, hb⟩
  have hm : H m = none := hfree m (Nat.le_refl _)
  rcases ho.2 with ⟨rfl, h0⟩ | ⟨g, cap, cur, rfl, hg0, hg, hnc, hcm, hcs, htake⟩
  · have hels : els = [] := List.eq_nil_of_length_eq_zero (by omega)
    exact ⟨.ret .bz, H, m, σ, .inl ⟨hels, rfl, rfl, rfl⟩, hr.all hb.size hb.block, hfree, Nat.le_refl _, Fr.all hb, .bz⟩
  · have hgl : g < w'.heap.size := blk_lt hg
    have hmore := hr.more hb hm (.box els.flatten) ⟨g, cap, 0, T, sz⟩ hg0 hgl (fun l' hl' => by
      cases hl'
      refine ⟨rfl, cur, T, hg, ⟨rfl, hcs, hcm⟩, ?_⟩
      rw [← hcr.len, q5i, htake]; exact hcr) (fun e sz els hl => by cases hl)
    refine ⟨.ret (.bs m l.length T sz), hset H m (some (.box els.flatten)), m + 1, gset σ m ⟨g, cap, 0, T, sz⟩, .inr ⟨rfl, rfl, rfl⟩, hmore.1, fun i hi => by rw [q1b _ _ (by omega)]; exact hfree i (by omega), by omega, hmore.2, ?_⟩
    have := VR.bs (w := w') (M := MU M0 (gset σ m ⟨g, cap, 0, T, sz⟩) (hset H m (some (.box els.flatten)))) (σ := gset σ m ⟨g, cap, 0, T, sz⟩) (L := LV (hset H m (some (.box els.flatten)))) m l.length T sz (q6m _) (by rw [q1c]) (by rw [q1c]; exact hnc) (by rw [q1c]) (by rw [q1c])
    rw [q1c] at this
    exact this
/-- A box whose block has been turned otherwise. -/
theorem HR.turn {w : World} {M0 : Nat → Nat → Prop} {σ : Nat → Gh} {H : Heap} (h : HR w M0 σ H) {id : Nat} {l : List PV} (hid : H id = some (.box l)) {w' : World} (hgr : w.grownBy w' (some (σ id).blk)) {c' : Array Value} {t : TypeId} (hc : w'.heap[(σ id).blk]? = some (.cells c' t (0, 0))) {l' : List PV} (hsh : Shp (σ id) t c')
    (hcr : CR w (MU M0 σ H) σ (LV H) (c'.toList.take l'.length) l') : HR w' M0 σ (hset H id (some (.box l'))) ∧ Fr w M0 σ H w' σ (hset H id (some (.box l'))) := by
  have hne : H id ≠ none := by rw [hid]; simp
  have hiff : ∀ i, hset H id (some (.box l')) i ≠ none ↔ H i ≠ none := fun i => by
    by_cases e : i = id
    · subst e; rw [q1m]; simp [hid]
    · rw [q1b _ _ e]
  have hmu : ∀ b o, MU M0 σ (hset H id (some (.box l'))) b o → MU M0 σ H b o := by
    rintro b o (h1 | ⟨i, l1, h1, h2⟩ | ⟨i, e, sz, els, h1, h2, h3⟩)
    · exact .inl h1
    · by_cases e : i = id
      · subst e; exact .inr (.inl ⟨i, l, hid, h2⟩)
      · rw [q1b _ _ e] at h1; exact .inr (.inl ⟨i, l1, h1, h2⟩)
    · by_cases e' : i = id
      · subst e'; rw [q1m] at h1; cases h1
      · rw [q1b _ _ e'] at h1; exact .inr (.inr ⟨i, e, sz, els, h1, h2, h3⟩)
  have hoth : ∀ b, b < w.heap.size → b ≠ (σ id).blk → w'.heap[b]? = w.heap[b]? := fun b hb hn => hgr.block b hb (fun e => hn (Option.some.inj e))
  have E : Ext w (MU M0 σ H) σ (LV H) w' (MU M0 σ (hset H id (some (.box l')))) σ (LV (hset H id (some (.box l')))) := by
    refine ⟨fun b o v h1 h2 => ⟨q5r h1 (hoth b (q3j h1) (fun e => h2 ?_)), fun h3 => h2 (hmu b o h3)⟩, fun i hi => ⟨(hiff i).2 hi, .inl rfl⟩⟩
    subst e
    exact .inr (.inl ⟨id, l, hid, rfl⟩)
  refine ⟨⟨fun b o hm0 => Nat.lt_of_lt_of_le (h.m0 b o hm0) hgr.size, fun i hi => h.sep i ((hiff i).1 hi), fun i j hi hj => h.inj i j ((hiff i).1 hi) ((hiff j).1 hj), fun i l1 hl1 => ?_, fun i e sz els hl1 => ?_⟩,
    ⟨hgr.os, hgr.tape, hgr.output, hgr.size, fun b hb hn => hoth b hb (fun e => hn id hne e.symm), fun i hi => .inr ⟨i, (hiff i).1 hi, rfl⟩, E⟩⟩
  · by_cases e : i = id
    · subst e
      rw [q1m] at hl1
      cases hl1
      exact ⟨(h.box i l hid).1, c', t, hc, hsh, hcr.mono E⟩
    · rw [q1b _ _ e] at hl1
      obtain ⟨h1, c1, t1, h2, hs1, h3⟩ := h.box i l1 hl1
      exact ⟨h1, c1, t1, (hoth _ (h.lt (by rw [hl1]; simp)) (ne_blk h (by rw [hl1]; simp) hne e)).trans h2, hs1, h3.mono E⟩
  · by_cases e' : i = id
    · subst e'; rw [q1m] at hl1; cases hl1
    · rw [q1b _ _ e'] at hl1
      obtain ⟨h1, h2, h3, xs, h4, h5⟩ := h.row i e sz els hl1
      exact ⟨h1, h2, h3, xs, q4p h4 (hoth _ (h.lt (by rw [hl1]; simp)) (ne_blk h (by rw [hl1]; simp) hne e')), h5.mono E⟩
def InsertC (P : Program) (fn T sz : Nat) : Prop := ∀ (l : List (Cl sz)) (v : Value) (k : Nat) (x : Cl sz) (vb cv base : Nat) (w : World), RowC T w base v l → k ≤ l.length → ∀ {cx : Array Value} {tx : TypeId}, w.heap[vb]? = some (.cells cx tx (0, 0)) → (∀ (j : Nat) (u : Value), x.1[j]? = some u → cx[j]? = some u) → v.ownBlock ≠ some vb → base ≤ w.heap.size → l.length ≤ 1000000 →
  Calls P fn #[v, .int .i64 k, .slice (some ⟨vb, 0, none⟩) 1 cv] w fun e w' => ∃ v', e = .returned v' ∧ RowC T w' base v' (l.take k ++ x :: l.drop k) ∧ Mv w w' v v'
theorem ftake {els : List (List PV)} (hs : ∀ e ∈ els, e.length = sz) (k : Nat) (hk : k ≤ els.length) : (els.take k).flatten = els.flatten.take (k * sz) := by
  have hfl : (els.take k).flatten.length = k * sz := by rw [q1w (sz := sz) (fun e he => hs e (List.mem_of_mem_take he)), List.length_take, Nat.min_eq_left hk]
  conv => rhs; rw [← List.take_append_drop k els, List.flatten_append]
  rw [List.take_left' hfl]
theorem fdrop {els : List (List PV)} (hs : ∀ e ∈ els, e.length = sz) (k : Nat) (hk : k ≤ els.length) : (els.drop k).flatten = els.flatten.drop (k * sz) := by
  have hfl : (els.take k).flatten.length = k * sz := by rw [q1w (sz := sz) (fun e he => hs e (List.mem_of_mem_take he)), List.length_take, Nat.min_eq_left hk]
  conv => rhs; rw [← List.take_append_drop k els, List.flatten_append]
  rw [List.drop_left' hfl]
theorem CR.dropN {w M σ L} {cs : List Value} {l : List PV} (h : CR w M σ L cs l) (n : Nat) : CR w M σ L (cs.drop n) (l.drop n) := by
  have := h.cut n l.length
  rw [List.take_of_length_le (by rw [List.length_drop, h.len]; omega), List.take_of_length_le (by rw [List.length_drop]; omega)] at this
  exact this
theorem CR.takeN {w M σ L} {cs : List Value} {l : List PV} (h : CR w M σ L cs l) (n : Nat) : CR w M σ L (cs.take n) (l.take n) := by
  have := h.cut 0 n
  simpa using this
/-- An own slice, as a row of cells. -/
theorem row_of_bs {w : World} {M0 : Nat → Nat → Prop} {σ : Nat → Gh} {H : Heap} (hr : HR w M0 σ H) {id : Nat} {els : List (List PV)} (hid : H id = some (.box els.flatten)) (hs : ∀ e ∈ els, e.length = sz) {v : Value} (hv : VV w M0 σ H v (.bs id els.length T sz)) :
    ∃ (l : List (Cl sz)) (cur : Array Value), v = .slice (some ⟨(σ id).blk, 0, none⟩) els.length (σ id).cap ∧ l.length = els.length ∧ RowC T w 0 v l ∧ (σ id).ty = T ∧ (σ id).sz = sz ∧ w.heap[(σ id).blk]? = some (.cells cur T (0, 0)) ∧ CR w (MU M0 σ H) σ (LV H) (flat l) els.flatten := by
  cases hv with
  | bs _ _ _ _ hL h0 hc hty hsz =>
    obtain ⟨_, cur, t, hg, ⟨rfl, hcs, hcm⟩, hcr⟩ := hr.box id _ hid
    have hfl := q1w hs
    obtain ⟨l, hl, hf⟩ := cells_rows (sz := sz) els.length (cur.toList.take els.flatten.length) (by rw [hcr.len, hfl]) hcr.one
    refine ⟨l, cur, rfl, hl, ⟨q5i l, .inr ⟨(σ id).blk, (σ id).cap, cur, by rw [hl], Nat.zero_le _, by rw [← hty]; exact hg, by rw [hl]; exact hc, hcm, by rw [hcs, hsz], by rw [hf, hfl, hl]⟩⟩, hty, hsz, by rw [← hty]; exact hg, by rw [hf]; exact hcr⟩
theorem insert_csat (hin : InsertC P fn T sz) {els : List (List PV)} (hs : ∀ e ∈ els, e.length = sz) (hlen : els.length ≤ 1000000) {k : Nat} (hk : k ≤ els.length) {xe : List PV} (hxe : xe.length = sz) {H : Heap} {m id ix e1 z1 : Nat} (hid : H id = some (.box els.flatten)) (hix : H ix = some (.box xe)) (hne : ix ≠ id) :
    CSat P fn [.bs id els.length T sz, .int .i64 k, .bs ix 1 e1 z1] H m (fun out H' m' =>
      (out = .ret (.bs id (els.take k ++ xe :: els.drop k).length T sz) ∧ H' = hset H id (some (.box (els.take k ++ xe :: els.drop k).flatten)) ∧ m' = m) ∨
      (out = .ret (.bs m (els.take k ++ xe :: els.drop k).length T sz) ∧ H' = hset H m (some (.box (els.take k ++ xe :: els.drop k).flatten)) ∧ m' = m + 1)) := by
  intro w M0 σ vs hr hfree hvl
  obtain ⟨v, u1, u2, rfl, hv, hu1, hu2⟩ := vl_three hvl
  cases hu1
  obtain ⟨l, cur, rfl, hl, hrow, hty, hsz, hg, hcr⟩ := row_of_bs (T := T) hr hid hs hv
  cases hu2 with
  | bs _ _ _ _ hL2 h02 hc2 hty2 hsz2 =>
    obtain ⟨_, cx, tx, hgx, hshx, hcrx⟩ := hr.box ix _ hix
    have hxl : (cx.toList.take xe.length).length = sz := by rw [hcrx.len, hxe]
    refine (hin l _ k ⟨cx.toList.take xe.length, hxl, hcrx.one⟩ (σ ix).blk _ 0 w hrow (by omega) hgx (fun j u hj => ?_) ?_ (Nat.zero_le _) (by omega)).mono ?_
    · simp only at hj
      rw [List.getElem?_take] at hj
      split at hj
      · rw [Array.getElem?_toList] at hj; exact hj
      · cases hj
    · intro e
      have : (σ id).blk = (σ ix).blk := by simpa [Value.ownBlock] using e
      exact hne (hr.inj ix id (by rw [hix]; simp) (by rw [hid]; simp) this.symm)
    rintro e w' ⟨v', rfl, hrow', hmv⟩
    obtain ⟨ins, hins⟩ : ∃ ins, ins = els.take k ++ xe :: els.drop k := ⟨_, rfl⟩
    obtain ⟨li, hli⟩ : ∃ li, li = l.take k ++ ⟨cx.toList.take xe.length, hxl, hcrx.one⟩ :: l.drop k := ⟨_, rfl⟩
    rw [← hins]
    rw [← hli] at hrow'
    have hes : ins.length = li.length := by rw [hins, hli]; simp only [List.length_append, List.length_cons, List.length_take, List.length_drop, hl]
    have hse : ∀ e ∈ ins, e.length = sz := fun e he => by
      rw [hins] at he
      rcases List.mem_append.1 he with he | he
      · exact hs e (List.mem_of_mem_take he)
      · rcases List.mem_cons.1 he with rfl | he
        · exact hxe
        · exact hs e (List.mem_of_mem_drop he)
    have hcr2 : CR w (MU M0 σ H) σ (LV H) (flat li) ins.flatten := by
      rw [hli, hins, q5p, q7n, List.flatten_append, List.flatten_cons, ← flat_take l k (by omega), ← flat_drop l k (by omega), ftake hs k (by omega), fdrop hs k (by omega)]
      exact (hcr.takeN _).append (hcrx.append (hcr.dropN _))
    have hm : H m = none := hfree m (Nat.le_refl _)
    rcases hrow'.2 with ⟨h0, h00⟩ | ⟨g', cap', cur', rfl, _, hg', hn', hm', hs', ht'⟩
    · exfalso
      rw [hli] at h00
      simp at h00
    · rcases hmv with ⟨⟨A, n, n', c, e1, e5⟩, hgr⟩ | ⟨hown, hb⟩
      · injection e1 with e2 e3 e4
        subst e2; subst e4
        injection e5 with e6 e7 e8
        injection e6 with e6; injection e6 with e6
        subst e6; subst e8
        have hT := hr.turn hid (by simpa [Value.ownBlock] using hgr) (c' := cur') (t := T) hg' (l' := ins.flatten) ⟨hty.symm, by rw [hs', hsz], hm'⟩ (by rw [q1w hse, hes, ht']; exact hcr2)
        refine ⟨_, _, m, σ, .inl ⟨rfl, rfl, rfl⟩, hT.1, fun i hi => ?_, Nat.le_refl _, hT.2, ?_⟩
        · have : i ≠ id := fun e => by subst e; rw [hfree i hi] at hid; cases hid
          rw [q1b _ _ this]; exact hfree i hi
        · rw [← hes]
          exact .bs id _ T sz (q6m _) (hr.box id _ hid).1 (by rw [hes]; exact hn') hty hsz
      · have hgw : g' = w.heap.size := by simpa [Value.ownBlock] using hown
        subst hgw
        have hmore := hr.more hb hm (.box ins.flatten) ⟨w.heap.size, cap', 0, T, sz⟩ (Nat.le_refl _) (blk_lt hg') (fun l' hl' => by
          cases hl'
          refine ⟨rfl, cur', T, hg', ⟨rfl, hs', hm'⟩, ?_⟩
          rw [q1w hse, hes, ht']; exact hcr2) (fun e sz els hl => by cases hl)
        refine ⟨_, _, m + 1, gset σ m ⟨w.heap.size, cap', 0, T, sz⟩, .inr ⟨rfl, rfl, rfl⟩, hmore.1, fun i hi => by rw [q1b _ _ (by omega)]; exact hfree i (by omega), by omega, hmore.2, ?_⟩
        have := VR.bs (w := w') (M := MU M0 (gset σ m ⟨w.heap.size, cap', 0, T, sz⟩) (hset H m (some (.box ins.flatten)))) (σ := gset σ m ⟨w.heap.size, cap', 0, T, sz⟩) (L := LV (hset H m (some (.box ins.flatten)))) m ins.length T sz (q6m _) (by rw [q1c]) (by rw [q1c, hes]; exact hn') (by rw [q1c]) (by rw [q1c])
        rw [q1c] at this
        rw [← hes]
        exact this
/-- Into nothing. -/
theorem insert0_csat (hin : InsertC P fn T sz) {xe : List PV} (hxe : xe.length = sz) {H : Heap} {m ix e1 z1 : Nat} (hix : H ix = some (.box xe)) :
    CSat P fn [.bz, .int .i64 ((0 : Nat) : Int), .bs ix 1 e1 z1] H m (fun out H' m' => out = .ret (.bs m 1 T sz) ∧ H' = hset H m (some (.box [xe].flatten)) ∧ m' = m + 1) := by
  intro w M0 σ vs hr hfree hvl
  obtain ⟨v, u1, u2, rfl, hv, hu1, hu2⟩ := vl_three hvl
  cases hu1
  cases hv with
  | bz =>
  cases hu2 with
  | bs _ _ _ _ hL2 h02 hc2 hty2 hsz2 =>
    obtain ⟨_, cx, tx, hgx, hshx, hcrx⟩ := hr.box ix _ hix
    have hxl : (cx.toList.take xe.length).length = sz := by rw [hcrx.len, hxe]
    refine (hin [] (.slice none 0 0) 0 ⟨cx.toList.take xe.length, hxl, hcrx.one⟩ (σ ix).blk _ 0 w ⟨by simp [flat], .inl ⟨rfl, rfl⟩⟩ (Nat.le_refl _) hgx (fun j u hj => ?_) (by simp [Value.ownBlock]) (Nat.zero_le _) (by simp)).mono ?_
    · simp only at hj
      rw [List.getElem?_take] at hj
      split at hj
      · rw [Array.getElem?_toList] at hj; exact hj
      · cases hj
    rintro e w' ⟨v', rfl, hrow', hmv⟩
    have hm : H m = none := hfree m (Nat.le_refl _)
    rcases hrow'.2 with ⟨h0, h00⟩ | ⟨g', cap', cur', rfl, _, hg', hn', hm', hs', ht'⟩
    · simp at h00
    · rcases hmv with ⟨⟨A, n, n', c, e1, e5⟩, hgr⟩ | ⟨hown, hb⟩
      · injection e1 with e2 e3 e4
        subst e2
        cases e5
      · have hgw : g' = w.heap.size := by simpa [Value.ownBlock] using hown
        subst hgw
        have hmore := hr.more hb hm (.box [xe].flatten) ⟨w.heap.size, cap', 0, T, sz⟩ (Nat.le_refl _) (blk_lt hg') (fun l' hl' => by
          cases hl'
          refine ⟨rfl, cur', T, hg', ⟨rfl, hs', hm'⟩, ?_⟩
          have h1 : [xe].flatten.length = sz := by simp [hxe]
          have h2 : [xe].flatten = xe := by simp
          simp only [List.take_nil, List.nil_append, List.drop_nil, List.length_cons, List.length_nil, Nat.zero_add, Nat.one_mul] at ht'
          rw [h1, h2, ht', q7n, flat_nil, List.append_nil]
          exact hcrx) (fun e sz els hl => by cases hl)
        refine ⟨_, _, m + 1, gset σ m ⟨w.heap.size, cap', 0, T, sz⟩, ⟨rfl, rfl, rfl⟩, hmore.1, fun i hi => by rw [q1b _ _ (by omega)]; exact hfree i (by omega), by omega, hmore.2, ?_⟩
        have := VR.bs (w := w') (M := MU M0 (gset σ m ⟨w.heap.size, cap', 0, T, sz⟩) (hset H m (some (.box [xe].flatten)))) (σ := gset σ m ⟨w.heap.size, cap', 0, T, sz⟩) (L := LV (hset H m (some (.box [xe].flatten)))) m 1 T sz (q6m _) (by rw [q1c]) (by rw [q1c]; simpa using hn') (by rw [q1c]) (by rw [q1c])
        rw [q1c] at this
        exact this
end
end Go.Proofs.YtoibbedpaaeclaaGreat
end

section
namespace Go.Proofs.YtoibbedpaaeclaaGreat
open Go Go.RowKit
set_option linter.unusedVariables false
set_option linter.unusedSimpArgs false
set_option maxHeartbeats 16000000
set_option maxRecDepth 100000
@[go_sem high] theorem half_ev (t : TypeId) (n : Nat) : q3f Tryz.prog .shr t (.int .u64 (n : Int)) (.int .u64 1) = some (.int .u64 ((n / 2 : Nat) : Int)) := by
  have : (n : Int).fdiv (2 ^ min (1 : Int).toNat IntKind.u64.bits) = ((n / 2 : Nat) : Int) := by
    rw [show (2 : Int) ^ min (1 : Int).toNat IntKind.u64.bits = 2 by decide, Int.fdiv_eq_ediv_of_nonneg _ (by decide)]; omega
  show x0z .shr .u64 n 1 = _
  unfold x0z
  rw [if_neg (by decide), this]
def LsO (l : List Ob) : Ls := ⟨l, .fn (.func 168) [] []⟩
@[go_sem] theorem lsO_things (l : List Ob) : (LsO l).things = l := rfl
@[go_sem] theorem lsO_idf (l : List Ob) : (LsO l).idf = .fn (.func 168) [] [] := rfl
def lsG (l : List Ob) : List (Nat × HE) := [(0, .box (Ls.enc (LsO l)))]
theorem lsG_bd (S : Nat → Prop) (l : List Ob) : BdL S (Ls.enc (LsO l)) := by
  show BdL S ([.sl (List.map Ob.enc l)] ++ [.fn (.func 168) [] []])
  simp only [go_sem]
theorem lsG_1 (l : List Ob) : ∀ i, 1 ≤ i → q1g (lsG l) i = none := fun i hi => by unfold lsG; rw [q3e, if_neg (by omega)]; rfl
theorem lsG_2 (l : List Ob) : ∀ i k, q1g (lsG l) i = some (.box k) → ∀ p ∈ k, Bd (LV (q1g (lsG l))) p := fun i k h => by
  unfold lsG at h
  rw [q3e] at h
  split at h
  · cases h; exact lsG_bd _ l
  · cases h
theorem lsG_3 (l : List Ob) : ∀ i e sz els, q1g (lsG l) i ≠ some (.row e sz els) := fun i e sz els h => by
  unfold lsG at h
  rw [q3e] at h
  split at h <;> cases h
theorem lsG_lv (l : List Ob) : LV (q1g (lsG l)) 0 := by unfold lsG; simp only [go_sem]
theorem q7w {m0 : Nat} {G : List (Nat × HE)} {env : Env} {H : Heap} {E : List (Nat × PV)} (h1 : ∀ i, i < m0 → H i = q1g G i) (h2 : KE (LV (q1g G)) env E) : q2s m0 G env H E := ⟨h1, h2⟩
attribute [local irreducible] q0i dr q0d Ex.then Ex.inBlock retQ q1n q2d q2c Pure CSat evOp q1i rdOf upd hset strip sp0 cut envL q1g q3i Keep BdL evBs q2n q2s
def cmpZ (x y : Int) : Int := if decide (x < y) = true then -1 else if decide (x > y) = true then 1 else 0
theorem cmp_nan (x : Int) : Pure Tryz.prog 220 [.int .u64 x] (.bool false) := by
  refine q2p (by kernel_rfl) (by simp only [go_sem, *]) (by simp only [go_sem, *]) Tryz.func220 Tryz.results220 rfl (by simp [Tryz.ntmps220]) (by kernel_rfl) ?_
  repeat' (first | (show q0i ..; first | refine q0c ?_ | refine q0e rfl ?_) | (show q0k ..; refine q0f rfl rfl ?_) | (show goOn ..; refine q0g ?_) | (show q0d ..; first | refine q0h ?_ | refine q0b ?_ | refine q0t ?_) | refine q0a ?_ | (show retQ ..; refine q0u ?_) | refine q0n ?_)
  all_goals rfl
theorem cmp_u (x y : Int) : Pure Tryz.prog 171 [.int .u64 x, .int .u64 y] (.int .i64 (cmpZ x y)) := by
  refine q2p (by kernel_rfl) (by simp only [go_sem, *]) (by simp only [go_sem, *]) Tryz.func171 Tryz.results171 rfl (by simp [Tryz.ntmps171]) (by kernel_rfl) ?_
  repeat' (first | (show q0i ..; first | refine q0c ?_ | refine q0e rfl ?_) | (show q0k ..; first | refine q0f rfl rfl ?_ | refine q0l rfl ?_) | (show goOn ..; refine q0g ?_) | (show q1k ..; (refine q0r (r := ?_) ?_ ?_; rotate_left 1; (focus exact cmp_nan _))) | (show q0d ..; first | refine q0h ?_ | refine q0b ?_ | refine q0t ?_ | refine q0s ?_ | refine q0j ?_) | (show q0o ..; first | refine cd_f ?_ | refine cd_b (fun _ => ?_) (fun _ => ?_)) | refine q0a ?_ | refine q2j ?_ | (show retQ ..; refine q0u ?_) | refine q0n ?_)
  all_goals (unfold cmpZ; simp only [*, if_true, if_false, Bool.false_eq_true]; try rfl)
theorem at1_ob (l : List Ob) (x : Ob) (id : Int) : CSat Tryz.prog 170 [.agg (Ob.enc x), .int .u64 id, .ptr 0 0] (q1g (lsG l)) 1 (fun out H' m' => out = .ret (.int .i64 (cmpZ x.id id)) ∧ 1 ≤ m' ∧ ∀ i, i < 1 → H' i = q1g (lsG l) i) := by
  refine q4s (by kernel_rfl) Tryz.func170 Tryz.results170 rfl (by simp [Tryz.ntmps170]) (by kernel_rfl) ?_
  unfold lsG
  repeat' (first | (show q0i ..; first | refine q0c ?_ | refine q0e rfl ?_) | (show q0k ..; first | refine q0f rfl rfl ?_ | refine q0l rfl ?_) | (show goOn ..; first | refine q0g ?_ | refine q1d ?_) | (show q1k ..; (refine q0r (r := ?_) ?_ ?_; rotate_left 1; (focus first | exact obj_idOf _ | exact cmp_u _ _))) | (show q0d ..; first | refine q0h ?_ | refine q0b ?_ | refine q0t ?_) | refine q0a ?_ | (show retQ ..; refine q0u ?_) | refine q0n ?_)
  refine ⟨rfl, by omega, fun i hi => ?_⟩
  obtain rfl : i = 0 := by omega
  exact q1b _ _ (by decide)
def RisO (l : List Ob) : Prop := ∀ (i j : Nat) (x y : Ob), l[i]? = some x → l[j]? = some y → i < j → x.id < y.id
def posO (l : List Ob) (id : Int) : Nat := (l.takeWhile (fun x => decide (x.id < id))).length
def hitO (l : List Ob) (id : Int) : Bool := match l[posO l id]? with
  | some x => x.id == id
  | none => false
theorem pos_le (l : List Ob) (id : Int) : posO l id ≤ l.length := by
  unfold posO; exact List.Sublist.length_le (List.takeWhile_sublist _)
theorem pos_spot {l : List Ob} {id : Int} {n : Nat} (hn : n ≤ l.length) (h1 : ∀ k, k < n → ∀ x, l[k]? = some x → x.id < id) (h2 : ∀ x, l[n]? = some x → ¬ x.id < id) : posO l id = n := by
  unfold posO
  induction l generalizing n with
  | nil => simp at hn; subst hn; rfl
  | cons a l ih =>
    cases n with
    | zero =>
      have := h2 a rfl
      rw [List.takeWhile_cons, if_neg (by simpa using this)]; rfl
    | succ n =>
      have := h1 0 (by omega) a rfl
      rw [List.takeWhile_cons, if_pos (by simpa using this), List.length_cons, ih (by simpa using hn) (fun k hk x hx => h1 (k + 1) (by omega) x (by simpa using hx)) (fun x hx => h2 x (by simpa using hx))]
theorem cmpZ_lt (x y : Int) : decide (cmpZ x y < 0) = decide (x < y) := by
  unfold cmpZ
  by_cases h : x < y
  · rw [if_pos (decide_eq_true h), decide_eq_true h]; rfl
  · rw [if_neg (by simpa using h), decide_eq_false h]; split <;> rfl
theorem cmpZ_eq (x y : Int) : (cmpZ x y == 0) = (x == y) := by
  unfold cmpZ
  by_cases h : x < y
  · rw [if_pos (decide_eq_true h)]; have : (x == y) = false := by simpa using (by omega : x ≠ y)
    rw [this]; rfl
  · rw [if_neg (by simpa using h)]
    by_cases h2 : x > y
    · rw [if_pos (decide_eq_true h2)]; have : (x == y) = false := by simpa using (by omega : x ≠ y)
      rw [this]; rfl
    · rw [if_neg (by simpa using h2)]; have : (x == y) = true := by simpa using (by omega : x = y)
      rw [this]; rfl
theorem search_ob (l : List Ob) (id : Int) (hl : l.length ≤ 1000000) (hs : RisO l) : CSat Tryz.prog 169 [.sl (l.map Ob.enc), .int .u64 id, .fn (.func 170) [] [.ptr 0 0]] (q1g (lsG l)) 1
    (fun out _ _ => out = .ret (.tup [.int .i64 (posO l id), .bool (hitO l id)])) := by
  refine q4s (by kernel_rfl) Tryz.func169 Tryz.results169 rfl (by simp [Tryz.ntmps169]) (by kernel_rfl) ?_
  repeat' (first | (show q0i ..; first | refine q0c ?_ | refine q0e rfl ?_) | (show q0k ..; refine q0f rfl rfl ?_) | (show goOn ..; refine q0g ?_) | (show q0d ..; first | refine q0h ?_ | refine q0b ?_ | refine q0m ?_) | refine q0a ?_)
  have hLV := lsG_lv l
  refine pc_loopK (S := Nat × Nat) (lsG l) (lsG_1 l) (lsG_2 l) (lsG_3 l) (fun s => s.2 - s.1) (fun s => s.1 ≤ s.2 ∧ s.2 ≤ l.length ∧ (∀ k, k < s.1 → ∀ x, l[k]? = some x → x.id < id) ∧ (∀ k, s.2 ≤ k → ∀ x, l[k]? = some x → ¬ x.id < id)) (fun s => [(0, .sl (l.map Ob.enc)), (1, .int .u64 id), (2, .fn (.func 170) [] [.ptr 0 0]), (8, .int .i64 l.length), (9, .int .i64 s.1), (10, .int .i64 s.2)]) (0, l.length) ⟨Nat.zero_le _, Nat.le_refl _, fun k hk => absurd hk (Nat.not_lt_zero k), fun k hk x hx => absurd (q3w hx) (by simp only at hk; omega)⟩ (Nat.le_refl _) (q7w (fun i _ => rfl) (by (repeat' (first | exact q0v | refine q0p (by (try simp only [go_sem, *]); try rfl) (by simp only [go_sem, *]) ?_)))) ?_
  rintro ⟨i, j⟩ ⟨hij, hj, h1, h2⟩
  simp only at hij hj h1 h2
  rcases Nat.lt_or_ge i j with hlt | hge
  · obtain ⟨x, hx⟩ := q2b (by omega : (i + j) / 2 < l.length)
    have h0 := q2h hlt
    have e1 : IntKind.i64.wrap ((i : Int) + (j : Int)) = ((i + j : Nat) : Int) := by rw [IntKind.wrap_i64]; omega
    have e2 : IntKind.u64.wrap ((i + j : Nat) : Int) = ((i + j : Nat) : Int) := by rw [IntKind.wrap_u64]; omega
    have e3 : IntKind.i64.wrap (((i + j) / 2 : Nat) : Int) = (((i + j) / 2 : Nat) : Int) := by rw [IntKind.wrap_i64]; omega
    have e4 := q2a ((i + j) / 2) (by omega)
    repeat' (first | (show q0i ..; first | refine q0c ?_ | refine q0e rfl ?_) | (show q0k ..; first | refine q0f rfl rfl ?_ | refine q0l rfl ?_) | (show goOn ..; refine q0g ?_) | (show q0d ..; first | refine q0h ?_ | refine q0b ?_ | refine q0s ?_ | refine q0m ?_ | refine q0j ?_) | (show q0o ..; refine cd_t ?_) | refine q0a ?_)
    (refine q0w (by kernel_rfl) (at1_ob l x id) ?_ ?_)
    case refine_2 => rintro p H' m' ⟨h, _⟩; cases h
    rintro r H' m' ⟨h, hm', hH'⟩
    cases h
    have e5 := cmpZ_lt x.id id
    repeat' (first | (show q0i ..; first | refine q0c ?_ | refine q0e rfl ?_) | (show q0k ..; refine q0f rfl rfl ?_) | (show goOn ..; refine q0g ?_) | (show q0d ..; first | refine q0b ?_ | refine q0j ?_) | (show q0o ..; refine cd_b (fun _ => ?_) (fun _ => ?_)) | refine q0a ?_ | refine q0q ?_)
    all_goals rename_i hc
    · refine againK ((i + j) / 2 + 1, j) ⟨by simp only; omega, hj, fun k hk y hy => ?_, h2⟩ (by simp only; omega) hm' hH' (by (repeat' (first | exact q0v | refine q0p (by (try simp only [go_sem, *]); try rfl) (by simp only [go_sem, *]) ?_)))
      simp only at hk
      rcases Nat.lt_or_ge k ((i + j) / 2) with h | h
      · have := hs k _ y x hy hx h; have := of_decide_eq_true hc; omega
      · obtain rfl : k = (i + j) / 2 := by omega
        rw [hx] at hy; cases hy; exact of_decide_eq_true hc
    · refine againK (i, (i + j) / 2) ⟨by simp only; omega, by simp only; omega, h1, fun k hk y hy => ?_⟩ (by simp only; omega) hm' hH' (by (repeat' (first | exact q0v | refine q0p (by (try simp only [go_sem, *]); try rfl) (by simp only [go_sem, *]) ?_)))
      simp only at hk
      have hc' := of_decide_eq_false hc
      rcases Nat.lt_or_ge ((i + j) / 2) k with h | h
      · have := hs _ k x y hx hy h; omega
      · obtain rfl : k = (i + j) / 2 := by omega
        rw [hx] at hy; cases hy; exact hc'
  · obtain rfl : i = j := by omega
    have h0 := q1q hge
    have hp := pos_spot hj h1 (h2 i (Nat.le_refl _))
    rcases Nat.lt_or_ge i l.length with hlt | hge2
    · obtain ⟨x, hx⟩ := q2b hlt
      have h3 := q2h hlt
      have hh : hitO l id = (x.id == id) := by unfold hitO; rw [hp, hx]
      repeat' (first | (show q0i ..; first | refine q0c ?_ | refine q0e rfl ?_ | refine q1a rfl rfl ?_) | (show q0k ..; first | refine q0f rfl rfl ?_ | refine q0l rfl ?_) | (show goOn ..; refine q0g ?_) | (show wGo ..; refine q3h ?_) | (show q0d ..; first | refine q0h ?_ | refine q0b ?_ | refine q1s ?_ | refine q0j ?_) | (show q0o ..; refine cd_f ?_) | refine q0a ?_ | refine q1r ?_ | refine q1t ?_)
      (refine q0w (by kernel_rfl) (at1_ob l x id) ?_ ?_)
      case refine_2 => rintro p H' m' ⟨h, _⟩; cases h
      rintro r H' m' ⟨h, hm', hH'⟩
      cases h
      have e5 := cmpZ_eq x.id id
      repeat' (first | (show q0i ..; first | refine q0c ?_ | refine q0e rfl ?_ | refine q1a rfl rfl ?_) | (show q0k ..; refine q0f rfl rfl ?_) | (show goOn ..; refine q0g ?_) | (show wGo ..; refine q3h ?_) | (show q0d ..; refine q0t ?_) | refine q0a ?_ | (show retQ ..; refine q0u ?_) | refine q0n ?_)
      all_goals (rw [hp, hh])
    · have h3 := q1q hge2
      have hh : hitO l id = false := by unfold hitO; rw [hp, List.getElem?_eq_none hge2]
      repeat' (first | (show q0i ..; first | refine q0c ?_ | refine q0e rfl ?_ | refine q1a rfl rfl ?_) | (show q0k ..; refine q0f rfl rfl ?_) | (show goOn ..; refine q0g ?_) | (show wGo ..; refine q3r ?_) | (show q0d ..; first | refine q0h ?_ | refine q0b ?_ | refine q0t ?_ | refine q1s ?_ | refine q0j ?_) | (show q0o ..; refine cd_f ?_) | refine q0a ?_ | refine q1r ?_ | refine q1t ?_ | (show retQ ..; refine q0u ?_) | refine q0n ?_)
      all_goals (rw [hp, hh])
end Go.Proofs.YtoibbedpaaeclaaGreat
end

section
namespace Go.Proofs.YtoibbedpaaeclaaGreat
open Go Go.RowKit
set_option linter.unusedVariables false
set_option linter.unusedSimpArgs false
set_option maxHeartbeats 16000000
set_option maxRecDepth 100000
attribute [go_sem] q1m
attribute [local irreducible] q0i dr q0d Ex.then Ex.inBlock retQ q1n q2d q2c Pure CSat evOp q1i rdOf upd hset strip sp0 cut envL q1g q3i Keep BdL evBs q2n q2s
@[go_sem] theorem lsO_bd (S : Nat → Prop) (l : List Ob) : BdL S (Ls.enc (LsO l)) = True := eq_true (lsG_bd S l)
theorem obj_at (l : List Ob) (id : Int) (hl : l.length ≤ 1000000) (hs : RisO l) : Pure Tryz.prog 121 [.agg (Ls.enc (LsO l)), .int .u64 id] (.tup [.int .i64 (posO l id), .bool (hitO l id)]) := by
  refine q2p (by kernel_rfl) (by simp only [go_sem, *]) (by simp only [go_sem, *]) Tryz.func121 Tryz.results121 rfl (by simp [Tryz.ntmps121]) (by kernel_rfl) ?_
  have h := search_ob l id hl hs
  unfold lsG at h
  rw [← hset_heapL] at h
  repeat' (first | (show q0i ..; first | refine q0c ?_ | refine q0e rfl ?_) | (show q0k ..; first | refine q0f rfl rfl ?_ | refine q0l rfl ?_) | (show goOn ..; first | refine q0g ?_ | refine q1d ?_) | (show q0d ..; first | refine q0h ?_ | refine q0b ?_) | refine q0a ?_)
  (refine q0w (by kernel_rfl) (h) ?_ ?_)
  case refine_2 => rintro p H' m' h; cases h
  rintro r H' m' h
  cases h
  repeat' (first | (show q0i ..; first | refine q0c ?_ | refine q0e rfl ?_) | (show q0k ..; refine q0f rfl rfl ?_) | (show goOn ..; refine q0g ?_) | (show q0d ..; refine q0t ?_) | refine q0a ?_ | (show retQ ..; refine q0u ?_) | refine q0n ?_)
  all_goals rfl
theorem x0h (w : Wd) : Pure Tryz.prog 120 [.agg (Wd.enc w)] (.agg (Ls.enc (LsO w.objects))) := by
  refine q2p (by kernel_rfl) (by simp only [go_sem, *]) (by simp only [go_sem, *]) Tryz.func120 Tryz.results120 rfl (by simp [Tryz.ntmps120]) (by kernel_rfl) ?_
  repeat' (first | (show q0i ..; first | refine q0c ?_ | refine q0e rfl ?_) | (show q0k ..; refine q0f rfl rfl ?_) | (show goOn ..; first | refine q0g ?_ | refine q1d ?_ | refine q1x ?_) | (show q2w ..; refine q1h ?_) | (show q0d ..; first | refine q0h ?_ | refine q0b ?_ | refine q0t ?_) | refine q0a ?_ | (show retQ ..; refine q0u ?_) | refine q0n ?_)
  all_goals rfl
theorem hit_lt {l : List Ob} {id : Int} (h : hitO l id = true) : ∃ x, l[posO l id]? = some x ∧ x.id = id ∧ posO l id < l.length := by
  unfold hitO at h
  split at h
  · rename_i x hx; exact ⟨x, hx, by simpa using h, q3w hx⟩
  · cases h
def findO (w : Wd) (id : Int) : Ob × Bool := if hitO w.objects id = true then ((w.objects[posO w.objects id]?).getD Ob.zero, true) else (Ob.zero, false)
theorem obj_find (w : Wd) (id : Int) (hl : w.objects.length ≤ 1000000) (hs : RisO w.objects) : Pure Tryz.prog 60 [.agg (Wd.enc w), .int .u64 id] (.tup [.agg (Ob.enc (findO w id).1), .bool (findO w id).2]) := by
  have hat := obj_at w.objects id hl hs
  cases hh : hitO w.objects id with
  | true =>
    rw [hh] at hat
    obtain ⟨y, hy, hyid, hk⟩ := hit_lt hh
    have hf : findO w id = (y, true) := by unfold findO; rw [if_pos hh, hy]; rfl
    rw [hf]
    clear hh hf
    refine q2p (by kernel_rfl) (by simp only [go_sem, *]) (by simp only [go_sem, *]) Tryz.func60 Tryz.results60 rfl (by simp [Tryz.ntmps60]) (by kernel_rfl) ?_
    repeat' (first | (show q0i ..; first | refine q0c ?_ | refine q0e rfl ?_) | (show q0k ..; first | refine q0f rfl rfl ?_ | refine q0l rfl ?_) | (show goOn ..; first | refine q0g ?_ | refine q1d ?_ | refine q1x ?_) | (show q2w ..; refine q1h ?_) | (show q1k ..; (refine q0r (r := ?_) ?_ ?_; rotate_left 1; (focus first | exact x0h _ | exact hat))) | (show q0d ..; first | refine q0h ?_ | refine q0b ?_ | refine q0t ?_ | refine q0s ?_ | refine q0j ?_) | (show q0o ..; refine cd_f ?_) | refine q0a ?_ | (show retQ ..; refine q0u ?_) | refine q0n ?_)
    all_goals rfl
  | false =>
    rw [hh] at hat
    have hf : findO w id = (Ob.zero, false) := by unfold findO; rw [if_neg (by rw [hh]; simp)]
    rw [hf]
    clear hh hf
    refine q2p (by kernel_rfl) (by simp only [go_sem, *]) (by simp only [go_sem, *]) Tryz.func60 Tryz.results60 rfl (by simp [Tryz.ntmps60]) (by kernel_rfl) ?_
    repeat' (first | (show q0i ..; first | refine q0c ?_ | refine q0e rfl ?_) | (show q0k ..; first | refine q0f rfl rfl ?_ | refine q0l rfl ?_) | (show goOn ..; first | refine q0g ?_ | refine q1d ?_ | refine q1x ?_) | (show q2w ..; refine q1h ?_) | (show q1k ..; (refine q0r (r := ?_) ?_ ?_; rotate_left 1; (focus first | exact x0h _ | exact hat))) | (show q0d ..; first | refine q0h ?_ | refine q0b ?_ | refine q0t ?_ | refine q0j ?_) | (show q0o ..; refine cd_t ?_) | refine q0a ?_ | refine q2j ?_ | (show retQ ..; refine q0u ?_) | refine q0n ?_)
    all_goals rfl
def withL (l : List Ob) (x : Ob) : List Ob := if hitO l x.id = true then l.set (posO l x.id) x else l.take (posO l x.id) ++ x :: l.drop (posO l x.id)
def putW (w : Wd) (o : Ob) : Wd := if decide (((withL w.objects o).length : Int) ≤ 1024) = true then { w with objects := withL w.objects o } else w
end Go.Proofs.YtoibbedpaaeclaaGreat
end

section
namespace Go.Proofs.YtoibbedpaaeclaaGreat
open Go Go.RowKit
set_option linter.unusedVariables false
set_option linter.unusedSimpArgs false
def fnd (l : List Ob) (id : Int) : Option Ob := l.find? (fun x => x.id == id)
theorem RisO.tail {x : Ob} {l : List Ob} (h : RisO (x :: l)) : RisO l := fun i j a b ha hb hij => h (i + 1) (j + 1) a b (by simpa using ha) (by simpa using hb) (by omega)
theorem RisO.head {x : Ob} {l : List Ob} (h : RisO (x :: l)) : ∀ y ∈ l, x.id < y.id := fun y hy => by
  obtain ⟨k, hk⟩ := List.getElem?_of_mem hy
  exact h 0 (k + 1) x y rfl (by simpa using hk) (by omega)
theorem RisO.cons {x : Ob} {l : List Ob} (h1 : ∀ y ∈ l, x.id < y.id) (h2 : RisO l) : RisO (x :: l) := fun i j a b ha hb hij => by
  cases j with
  | zero => omega
  | succ j =>
    have hb' : l[j]? = some b := by simpa using hb
    cases i with
    | zero => simp at ha; subst ha; exact h1 b (List.mem_of_getElem? hb')
    | succ i => exact h2 i j a b (by simpa using ha) hb' (by omega)
theorem q6w (x : Ob) (l : List Ob) (id : Int) : fnd (x :: l) id = if x.id = id then some x else fnd l id := by
  unfold fnd
  rw [List.find?_cons]
  by_cases h : x.id = id
  · rw [if_pos h]; simp [h]
  · rw [if_neg h]; have : (x.id == id) = false := by simpa using h
    rw [this]
theorem fnd_none {l : List Ob} {id : Int} (h : ∀ x ∈ l, x.id ≠ id) : fnd l id = none := by
  unfold fnd; rw [List.find?_eq_none]; intro x hx; simpa using h x hx
/-- With one, by recursion. -/
def insR (o : Ob) : List Ob → List Ob
  | [] => [o]
  | x :: l => if x.id < o.id then x :: insR o l else if x.id = o.id then o :: l else o :: x :: l
theorem insR_mem {o : Ob} {l : List Ob} {y : Ob} (h : y ∈ insR o l) : y = o ∨ y ∈ l := by
  induction l with
  | nil => simp [insR] at h; exact .inl h
  | cons x l ih =>
    unfold insR at h
    split at h
    · rcases List.mem_cons.1 h with rfl | h
      · exact .inr (by simp)
      · rcases ih h with h | h
        · exact .inl h
        · exact .inr (by simp [h])
    · split at h
      · rcases List.mem_cons.1 h with h | h
        · exact .inl h
        · exact .inr (by simp [h])
      · rcases List.mem_cons.1 h with h | h
        · exact .inl h
        · exact .inr h
theorem insR_ris {o : Ob} {l : List Ob} (h : RisO l) : RisO (insR o l) := by
  induction l with
  | nil => exact RisO.cons (fun y hy => by cases hy) (fun i j a b ha => by simp at ha)
  | cons x l ih =>
    unfold insR
    split
    · rename_i hx
      refine RisO.cons (fun y hy => ?_) (ih h.tail)
      rcases insR_mem hy with rfl | hy
      · exact hx
      · exact h.head y hy
    · split
      · rename_i h1 h2
        exact RisO.cons (fun y hy => by have := h.head y hy; omega) h.tail
      · rename_i h1 h2
        refine RisO.cons (fun y hy => ?_) h
        rcases List.mem_cons.1 hy with rfl | hy
        · omega
        · have := h.head y hy; omega
theorem insR_fnd {o : Ob} {l : List Ob} (h : RisO l) (id : Int) : fnd (insR o l) id = if o.id = id then some o else fnd l id := by
  induction l with
  | nil => unfold insR; rw [q6w]
  | cons x l ih =>
    unfold insR
    split
    · rename_i hx
      rw [q6w, ih h.tail, q6w]
      by_cases e1 : x.id = id
      · rw [if_pos e1, if_neg (by omega), if_pos e1]
      · rw [if_neg e1, if_neg e1]
    · split
      · rename_i h1 h2
        rw [q6w, q6w]
        by_cases e1 : o.id = id
        · rw [if_pos e1, if_pos e1]
        · rw [if_neg e1, if_neg e1, if_neg (by omega)]
      · rw [q6w]
theorem posO_cons (x : Ob) (l : List Ob) (id : Int) : posO (x :: l) id = if x.id < id then posO l id + 1 else 0 := by
  unfold posO
  rw [List.takeWhile_cons]
  by_cases h : x.id < id
  · rw [if_pos (decide_eq_true h), if_pos h]; rfl
  · rw [if_neg (by simpa using h), if_neg h]; rfl
theorem hitO_cons (x : Ob) (l : List Ob) (id : Int) : hitO (x :: l) id = if x.id < id then hitO l id else x.id == id := by
  unfold hitO
  rw [posO_cons]
  by_cases h : x.id < id
  · rw [if_pos h, if_pos h]; simp only [List.getElem?_cons_succ]
  · rw [if_neg h, if_neg h]; simp only [List.getElem?_cons_zero]
theorem withL_ins (l : List Ob) (o : Ob) : withL l o = insR o l := by
  induction l with
  | nil => rfl
  | cons x l ih =>
    unfold withL insR
    rw [hitO_cons, posO_cons]
    by_cases h : x.id < o.id
    · simp only [if_pos h]
      rw [← ih]
      unfold withL
      split <;> simp
    · simp only [if_neg h]
      by_cases e : x.id = o.id
      · simp [e]
      · have : (x.id == o.id) = false := by simpa using e
        simp [this, e]
theorem hit_fnd {l : List Ob} (h : RisO l) (id : Int) : (if hitO l id = true then l[posO l id]? else none) = fnd l id := by
  induction l with
  | nil => rfl
  | cons x l ih =>
    rw [hitO_cons, posO_cons, q6w]
    by_cases h1 : x.id < id
    · simp only [if_pos h1, List.getElem?_cons_succ]
      rw [ih h.tail, if_neg (by omega)]
    · simp only [if_neg h1, List.getElem?_cons_zero]
      by_cases e : x.id = id
      · simp [e]
      · have : (x.id == id) = false := by simpa using e
        simp only [this, Bool.false_eq_true, if_false, if_neg e]
        rw [fnd_none (fun y hy => by have := h.head y hy; omega)]
theorem stp_done {o : Ob} : ∀ (l : List Ob) (acc : List Ob), (∀ x ∈ l, o.id < x.id) → l.foldl (stpR o) (acc, true) = (acc ++ l, true)
  | [], acc, _ => by simp
  | x :: l, acc, h => by
    have hx := h x (by simp)
    have e : stpR o (acc, true) x = (acc ++ [x], true) := by
      rw [stp_eq rfl rfl (beq_eq_false_iff_ne.2 (by omega : x.id ≠ o.id))]; rfl
    rw [List.foldl_cons, e, stp_done l _ (fun y hy => h y (by simp [hy]))]; simp
theorem putL_acc {o : Ob} : ∀ (l : List Ob) (acc : List Ob), RisO l → (let s := l.foldl (stpR o) (acc, false); if s.2 = true then s.1 else s.1 ++ [o]) = acc ++ insR o l
  | [], acc, _ => rfl
  | x :: l, acc, h => by
    rw [List.foldl_cons]
    unfold insR
    by_cases h1 : x.id < o.id
    · have e : stpR o (acc, false) x = (acc ++ [x], false) := by
        rw [stp_eq rfl (decide_eq_false (by omega)) (beq_eq_false_iff_ne.2 (by omega : x.id ≠ o.id))]; rfl
      rw [e, putL_acc l _ h.tail, if_pos h1]; simp
    · rw [if_neg h1]
      by_cases e1 : x.id = o.id
      · have e : stpR o (acc, false) x = (acc ++ [o], true) := by
          rw [stp_eq rfl (decide_eq_true (by omega)) (beq_iff_eq.2 e1)]; rfl
        rw [e, stp_done l _ (fun y hy => by have := h.head y hy; omega), if_pos e1]; simp
      · have e : stpR o (acc, false) x = (acc ++ [o] ++ [x], true) := by
          rw [stp_eq rfl (decide_eq_true (by omega)) (beq_eq_false_iff_ne.2 e1)]; rfl
        rw [e, stp_done l _ (fun y hy => by have := h.head y hy; omega), if_neg e1]; simp
theorem putL_ins {o : Ob} {l : List Ob} (h : RisO l) : putL l o = insR o l := by
  have := putL_acc (o := o) l [] h
  simpa [putL] using this
theorem insR_len (o : Ob) (l : List Ob) : (insR o l).length ≤ l.length + 1 := by
  induction l with
  | nil => simp [insR]
  | cons x l ih => unfold insR; split <;> (try split) <;> simp <;> omega
/-- Fit worlds. -/
theorem q5q {w : Wd} (h : q6q w = true) : RisO w.objects ∧ (∀ x ∈ w.objects, sound x = true) ∧ w.objects.length ≤ 1024 ∧ decide (w.time < 0) = false ∧ decide (w.time > 1099511627776) = false := by
  unfold q6q at h
  simp only [Bool.and_eq_true, Bool.not_eq_true'] at h
  obtain ⟨⟨h1, h2, h3⟩, h4⟩ := h
  have hat := allB_iff.1 h4
  have snd : ∀ x ∈ w.objects, sound x = true := fun x hx => by
    obtain ⟨k, hk⟩ := List.getElem?_of_mem hx
    have := hat k (q3w hk)
    unfold obAt at this; rw [hk] at this
    simp only [Bool.and_eq_true] at this
    exact this.1
  have adj : ∀ (k : Nat) (x y : Ob), w.objects[k]? = some x → w.objects[k + 1]? = some y → x.id < y.id := fun k x y hx hy => by
    have := hat (k + 1) (q3w hy)
    unfold obAt at this; rw [hy] at this
    simp only [hx, Bool.and_eq_true, Bool.not_eq_true', decide_eq_false_iff_not] at this
    omega
  have far : ∀ (d i : Nat) (x y : Ob), w.objects[i]? = some x → w.objects[i + d + 1]? = some y → x.id < y.id := by
    intro d
    induction d with
    | zero => intro i x y hx hy; exact adj i x y hx hy
    | succ d ih =>
      intro i x y hx hy
      obtain ⟨z, hz⟩ := q2b (by have := q3w hy; omega : i + d + 1 < w.objects.length)
      have h1 := ih i x z hx hz
      have h2 := adj (i + d + 1) z y hz (by rw [show i + d + 1 + 1 = i + (d + 1) + 1 by omega]; exact hy)
      omega
  refine ⟨fun i j x y hx hy hij => far (j - i - 1) i x y hx (by rw [show i + (j - i - 1) + 1 = j by omega]; exact hy), snd, ?_, h1, h2⟩
  have := of_decide_eq_false h3; omega
theorem ris_fit {w : Wd} (hr : RisO w.objects) (hs : ∀ x ∈ w.objects, sound x = true) (hl : w.objects.length ≤ 1024) (h1 : decide (w.time < 0) = false) (h2 : decide (w.time > 1099511627776) = false) : q6q w = true := by
  unfold q6q
  rw [h1, h2, decide_eq_false (by omega : ¬ ((w.objects.length : Int) > 1024))]
  simp only [Bool.not_false, Bool.true_and]
  refine q2m fun k hk => ?_
  obtain ⟨x, hx⟩ := q2b hk
  unfold obAt; rw [hx]
  simp only [hs x (List.mem_of_getElem? hx), Bool.true_and]
  cases k with
  | zero => rfl
  | succ j =>
    obtain ⟨y, hy⟩ := q2b (by omega : j < w.objects.length)
    simp only [hy]
    have := hr j (j + 1) y x hy hx (by omega)
    simp; omega
theorem findO_eq {w : Wd} (h : RisO w.objects) (id : Int) : findO w id = q2i w id := by
  have := hit_fnd h id
  unfold findO q2i
  unfold fnd at this
  cases hh : hitO w.objects id with
  | true =>
    obtain ⟨x, hx, _⟩ := hit_lt hh
    rw [hh, if_pos rfl, hx] at this
    rw [← this, if_pos rfl, hx]; rfl
  | false =>
    rw [hh, if_neg (by simp)] at this
    rw [← this, if_neg (by simp)]
theorem findR_fnd (w : Wd) (id : Int) : q2i w id = match fnd w.objects id with | some x => (x, true) | none => (Ob.zero, false) := rfl
theorem putW_eq {w : Wd} {o : Ob} (h : RisO w.objects) (hl : w.objects.length ≤ 1000) : putW w o = { w with objects := insR o w.objects } ∧ putR w o = { w with objects := insR o w.objects } := by
  have := insR_len o w.objects
  unfold putW putR
  rw [withL_ins, putL_ins h, if_pos (decide_eq_true (by omega)), if_neg (by simp; omega)]
  exact ⟨rfl, rfl⟩
end Go.Proofs.YtoibbedpaaeclaaGreat
end

section
namespace Go.Proofs.YtoibbedpaaeclaaGreat
open Go Go.RowKit
set_option linter.unusedVariables false
set_option linter.unusedSimpArgs false
set_option maxHeartbeats 16000000
set_option maxRecDepth 100000
def fewAt (l : List Ob) (k : Nat) : Bool := match l[k]? with
  | some x => !(decide ((x.label.length : Int) > 20) || (decide ((x.links.length : Int) > 70) || (decide ((x.data.length : Int) > 300) || decide ((x.maps.length : Int) > 20))))
  | none => true
def obsR (t o : List Pr) : Bool := leqR o (t.map upPr)
def seesR (t o : Ob) : Bool := obsR t.label (q7g o)
def chgR (t o : Ob) : Bool := seesR t o && leqR t.label o.label
def dirR (w : Wd) (t : Ob) (id : Int) (write : Bool) : Ob × Int :=
  if ((q2i w id).2 && (((q2i w id).1.kind == 2) && seesR t (q2i w id).1)) = true then
    if (!write || chgR t (q2i w id).1) = true then ((q2i w id).1, 0) else (Ob.zero, 2)
  else (Ob.zero, 1)
def q8r (w : Wd) (t : Ob) (r : Rf) : Ob × Int :=
  if ((dirR w t r.cont false).2 == 0) = true then
    if (dirR w t r.cont false).1.links.any (· == r.id) = true then ((q2i w r.id).1, 0) else (Ob.zero, 1)
  else (Ob.zero, (dirR w t r.cont false).2)
def seeR (w : Wd) (t : Ob) (r : Rf) (kind : Int) : Ob × Int :=
  if ((q8r w t r).2 == 0) = true then
    if ((kind == 0) || ((q8r w t r).1.kind == kind)) = true then
      if seesR t (q8r w t r).1 = true then ((q8r w t r).1, 0) else (Ob.zero, 2)
    else (Ob.zero, 3)
  else (Ob.zero, (q8r w t r).2)
theorem findR_few2 {w : Wd} (hf : FewW w) (id : Int) : (q2i w id).1.links.length ≤ 70 := by
  unfold q2i
  split
  · rename_i x hx; exact (hf.ob x (List.mem_of_find?_eq_some hx)).2.1
  · exact Nat.zero_le _
theorem dirR_few {w : Wd} (hf : FewW w) (t : Ob) (id : Int) (b : Bool) : (dirR w t id b).1.label.length ≤ 20 ∧ (dirR w t id b).1.links.length ≤ 70 := by
  unfold dirR
  split
  · split
    · exact ⟨x0y hf id, findR_few2 hf id⟩
    · exact ⟨Nat.zero_le _, Nat.zero_le _⟩
  · exact ⟨Nat.zero_le _, Nat.zero_le _⟩
attribute [local irreducible] q0i dr q0d Ex.then Ex.inBlock retQ q1n q2d q2c Pure CSat evOp q1i rdOf upd hset strip sp0 cut envL q1g q3i Keep BdL evBs q2n q2s
end Go.Proofs.YtoibbedpaaeclaaGreat
end

section
namespace Go.Proofs.YtoibbedpaaeclaaGreat
open Go Go.RowKit
set_option linter.unusedVariables false
set_option linter.unusedSimpArgs false
set_option maxHeartbeats 16000000
set_option maxRecDepth 100000
attribute [go_sem] q1m
@[go_sem] theorem qne_2 (m : Nat) : (m + 1 = m) = False := eq_false (by omega)
@[go_sem] theorem qne_3 (m : Nat) : (m = m + 1 + 1) = False := eq_false (by omega)
@[go_sem] theorem qne_4 (m : Nat) : (m + 1 + 1 = m) = False := eq_false (by omega)
@[go_sem] theorem qne_5 (m : Nat) : (m = m + 1 + 1 + 1) = False := eq_false (by omega)
@[go_sem] theorem qne_6 (m : Nat) : (m + 1 + 1 + 1 = m) = False := eq_false (by omega)
def q6s (t : Ob) (w : Wd) : List PV := Ob.enc t ++ Wd.enc w
@[go_sem] theorem fd_cells (t : Ob) (w : Wd) : PV.cells? (.agg (q6s t w)) = some (q6s t w) := rfl
@[go_sem] theorem fd_build (t : Ob) (w : Wd) : q3z Tryz.prog 286 [(0, .agg (Ob.enc t)), (1, .agg (Wd.enc w))] = some (.agg (q6s t w)) := by kernel_rfl
@[go_sem] theorem fd_f0 : q1p Tryz.prog 286 0 = some (71, 0) := by kernel_rfl
@[go_sem] theorem fd_f1 : q1p Tryz.prog 286 1 = some (33, 51) := by kernel_rfl
@[go_sem] theorem fd_w (t : Ob) (w : Wd) : cut Tryz.prog 33 (q6s t w) 51 = some (.agg (Wd.enc w)) := by kernel_rfl
@[go_sem] theorem fd_l (t : Ob) (w : Wd) : cut Tryz.prog 26 (q6s t w) 2 = some (.sl (t.label.map Pr.enc)) := by kernel_rfl
def thr (e : Int) : PV := .ifc 283 (.agg [.int .i64 e])
@[go_sem] theorem thr_build (e : Int) : q3z Tryz.prog 283 [(0, .int .i64 e)] = some (.agg [.int .i64 e]) := by kernel_rfl
theorem up_fit {l : List Pr} (h : q2x l = true) : q2x (l.map upPr) = true := by
  unfold q2x
  rw [List.length_map]
  refine q2m fun k hk => ?_
  have hq := allB_iff.1 h k hk
  unfold q6a at hq ⊢
  rw [List.getElem?_map]
  cases hx : l[k]? with
  | none => rfl
  | some x =>
    rw [hx] at hq
    simp only [Bool.and_eq_true, Option.map_some] at hq ⊢
    obtain ⟨⟨h1, h2⟩, h3⟩ := hq
    have hlev : q5y (levUp x.lev) = true ∧ (!(levUp x.lev == 2)) = true := by
      have e : q6r x.lev = x.lev := by unfold q6r; rw [if_pos h1]
      unfold levUp
      rw [e]
      split
      · exact ⟨rfl, rfl⟩
      · exact ⟨h1, h2⟩
    refine ⟨hlev, ?_⟩
    cases k with
    | zero => rfl
    | succ j =>
      simp only at h3 ⊢
      rw [List.getElem?_map]
      cases hy : l[j]? with
      | none => rfl
      | some y => rw [hy] at h3; exact h3
theorem sound_fit {o : Ob} (h : sound o = true) : q2x o.label = true := q4z (sound_kept h)
theorem shown_fit {o : Ob} (h : sound o = true) : q2x (q7g o) = true := by
  unfold q7g
  split
  · exact up_fit (sound_fit h)
  · exact sound_fit h
theorem zero_shown : shownOf Ob.zero = q7g Ob.zero := rfl
/-- What is known of an object that is found: it is sound, or none. -/
def Okay (o : Ob) : Prop := o.label.length ≤ 20 ∧ (sound o = true ∨ o = Ob.zero)
theorem okay_shown {o : Ob} (h : Okay o) : shownOf o = q7g o := by rcases h.2 with h | rfl; exact shown_eq h; rfl
theorem okay_fit {o : Ob} (h : Okay o) : q2x (q7g o) = true ∧ q2x o.label = true := by
  rcases h.2 with h | rfl
  · exact ⟨shown_fit h, sound_fit h⟩
  · exact ⟨rfl, rfl⟩
theorem x0r {w : Wd} (hf : FewW w) (h : q6q w = true) (id : Int) : Okay (q2i w id).1 := by
  refine ⟨x0y hf id, ?_⟩
  unfold q2i
  split
  · rename_i x hx; exact .inl ((q5q h).2.1 x (List.mem_of_find?_eq_some hx))
  · exact .inr rfl
def RisZ (l : List Int) : Prop := ∀ (i j : Nat) (x y : Int), l[i]? = some x → l[j]? = some y → i < j → x < y
theorem risZ_of {l : List Int} (h : allB l.length (risAt l) = true) : RisZ l := by
  have step : ∀ i (x y : Int), l[i]? = some x → l[i + 1]? = some y → x < y := fun i x y hx hy => by
    have := allB_iff.1 h (i + 1) (q3w hy)
    unfold risAt at this
    rw [hy] at this
    simp only [Bool.and_eq_true] at this
    have h2 := this.2
    rw [hx] at h2
    simp only [Bool.not_eq_true', decide_eq_false_iff_not] at h2
    omega
  intro i j
  induction j with
  | zero => intro x y _ _ hij; omega
  | succ j ih =>
    intro x y hx hy hij
    obtain ⟨z, hz⟩ := q2b (by have := q3w hy; omega : j < l.length)
    rcases Nat.lt_or_ge i j with h1 | h1
    · have := ih x z hx hz h1; have := step j z y hz hy; omega
    · obtain rfl : i = j := by omega
      rw [hx] at hz; cases hz; exact step i x y hx hy
theorem okay_links {o : Ob} (h : Okay o) (hk : (o.kind == 2) = true) : RisZ o.links := by
  rcases h.2 with h | rfl
  · unfold sound at h
    simp only [Bool.and_eq_true] at h
    have hi := h.2.2
    have hk' : o.kind = 2 := by simpa using hk
    unfold inner at hi
    rw [if_neg (by rw [hk']; decide), if_pos hk] at hi
    simp only [Bool.and_eq_true] at hi
    exact risZ_of hi.2
  · exact fun i j x y hx => by simp [Ob.zero] at hx
def posZ (l : List Int) (n : Int) : Nat := (l.takeWhile (fun x => decide (x < n))).length
theorem posZ_spot {l : List Int} {n : Int} {k : Nat} (hk : k ≤ l.length) (h1 : ∀ i, i < k → ∀ x, l[i]? = some x → x < n) (h2 : ∀ x, l[k]? = some x → ¬ x < n) : posZ l n = k := by
  unfold posZ
  induction l generalizing k with
  | nil => simp at hk; subst hk; rfl
  | cons a l ih =>
    cases k with
    | zero =>
      have := h2 a rfl
      rw [List.takeWhile_cons, if_neg (by simpa using this)]; rfl
    | succ k =>
      have := h1 0 (by omega) a rfl
      rw [List.takeWhile_cons, if_pos (by simpa using this), List.length_cons, ih (by simpa using hk) (fun k hk x hx => h1 (k + 1) (by omega) x (by simpa using hx)) (fun x hx => h2 x (by simpa using hx))]
attribute [local irreducible] q0i dr q0d Ex.then Ex.inBlock retQ q1n q2d q2c Pure CSat evOp q1i rdOf upd hset strip sp0 cut envL q1g q3i Keep BdL evBs q2n q2s
theorem cmp_less (x y : Int) : Pure Tryz.prog 304 [.int .u64 x, .int .u64 y] (.bool (decide (x < y))) := by
  refine q2p (by kernel_rfl) (by simp only [go_sem, *]) (by simp only [go_sem, *]) Tryz.func304 Tryz.results304 rfl (by simp [Tryz.ntmps304]) (by kernel_rfl) ?_
  repeat' (first | (show q0i ..; first | refine q0c ?_ | refine q0e rfl ?_ | refine q1a rfl rfl ?_) | (show q0k ..; first | refine q0f rfl rfl ?_ | refine q0l rfl ?_) | (show goOn ..; refine q0g ?_) | (show q1k ..; (refine q0r (r := ?_) ?_ ?_; rotate_left 1; (focus exact cmp_nan _))) | (show wGo ..; first | refine q4b ?_ | refine q3r ?_) | (show q0d ..; first | refine q0h ?_ | refine q0b ?_ | refine q0t ?_) | refine q0a ?_ | (show retQ ..; refine q0u ?_) | refine q0n ?_)
  all_goals (refine q1u ?_; simp [*])
theorem sl_nan (x : Int) : Pure Tryz.prog 305 [.int .u64 x] (.bool false) := by
  refine q2p (by kernel_rfl) (by simp only [go_sem, *]) (by simp only [go_sem, *]) Tryz.func305 Tryz.results305 rfl (by simp [Tryz.ntmps305]) (by kernel_rfl) ?_
  repeat' (first | (show q0i ..; first | refine q0c ?_ | refine q0e rfl ?_) | (show q0k ..; refine q0f rfl rfl ?_) | (show goOn ..; refine q0g ?_) | (show q0d ..; first | refine q0h ?_ | refine q0b ?_ | refine q0t ?_) | refine q0a ?_ | (show retQ ..; refine q0u ?_) | refine q0n ?_)
  all_goals (refine q1u ?_; simp [*])
theorem bin_search (l : List Int) (n : Int) (hl : l.length ≤ 1000000) (hs : RisZ l) : Pure Tryz.prog 293 [.sl (l.map u64), .int .u64 n] (.tup [.int .i64 (posZ l n), .bool (l.any (· == n))]) := by
  refine q2p (by kernel_rfl) (by simp only [go_sem, *]) (by simp only [go_sem, *]) Tryz.func293 Tryz.results293 rfl (by simp [Tryz.ntmps293]) (by kernel_rfl) ?_
  repeat' (first | (show q0i ..; first | refine q0c ?_ | refine q0e rfl ?_) | (show q0k ..; refine q0f rfl rfl ?_) | (show goOn ..; refine q0g ?_) | (show q0d ..; first | refine q0h ?_ | refine q0b ?_ | refine q0m ?_) | refine q0a ?_)
  refine q2l (S := Nat × Nat) (fun s => s.2 - s.1) (fun s => s.1 ≤ s.2 ∧ s.2 ≤ l.length ∧ (∀ k, k < s.1 → ∀ x, l[k]? = some x → x < n) ∧ (∀ k, s.2 ≤ k → ∀ x, l[k]? = some x → ¬ x < n)) (fun s => [(0, .sl (l.map u64)), (1, .int .u64 n), (6, .int .i64 l.length), (7, .int .i64 s.1), (8, .int .i64 s.2)]) (fun _ => []) (fun _ => 0) (0, l.length) ⟨Nat.zero_le _, Nat.le_refl _, fun k hk => absurd hk (Nat.not_lt_zero k), fun k hk x hx => absurd (q3w hx) (by simp only at hk; omega)⟩ (by (refine q1l ?_ ?_ <;> repeat' (first | exact q0v | exact q0y | refine q0p (by (try simp only [go_sem, *]); try rfl) (by simp only [go_sem, *]) ?_ | refine q0z (by (try simp only [go_sem, *]); try rfl) (by omega) (by simp only [go_sem, *]) ?_ | refine q0x (by (try simp only [go_sem, *]); try rfl) (by omega) (by simp only [go_sem, *]) ?_))) ?_
  rintro ⟨i, j⟩ ⟨hij, hj, h1, h2⟩
  simp only at hij hj h1 h2
  rcases Nat.lt_or_ge i j with hlt | hge
  · obtain ⟨x, hx⟩ := q2b (by omega : (i + j) / 2 < l.length)
    have h0 := q2h hlt
    have e1 : IntKind.i64.wrap ((i : Int) + (j : Int)) = ((i + j : Nat) : Int) := by rw [IntKind.wrap_i64]; omega
    have e2 : IntKind.u64.wrap ((i + j : Nat) : Int) = ((i + j : Nat) : Int) := by rw [IntKind.wrap_u64]; omega
    have e3 : IntKind.i64.wrap (((i + j) / 2 : Nat) : Int) = (((i + j) / 2 : Nat) : Int) := by rw [IntKind.wrap_i64]; omega
    have e4 := q2a ((i + j) / 2) (by omega)
    repeat' (first | (show q0i ..; first | refine q0c ?_ | refine q0e rfl ?_) | (show q0k ..; first | refine q0f rfl rfl ?_ | refine q0l rfl ?_) | (show goOn ..; refine q0g ?_) | (show q1k ..; (refine q0r (r := ?_) ?_ ?_; rotate_left 1; (focus exact cmp_less _ _))) | (show q0d ..; first | refine q0h ?_ | refine q0b ?_ | refine q0s ?_ | refine q0m ?_ | refine q0j ?_) | (show q0o ..; first | refine cd_t ?_ | refine cd_b (fun _ => ?_) (fun _ => ?_)) | refine q0a ?_ | refine q0q ?_)
    all_goals rename_i hc
    · refine again ((i + j) / 2 + 1, j) ⟨by simp only; omega, hj, fun k hk y hy => ?_, h2⟩ (by simp only; omega) (by (refine q1l ?_ ?_ <;> repeat' (first | exact q0v | exact q0y | refine q0p (by (try simp only [go_sem, *]); try rfl) (by simp only [go_sem, *]) ?_ | refine q0z (by (try simp only [go_sem, *]); try rfl) (by omega) (by simp only [go_sem, *]) ?_ | refine q0x (by (try simp only [go_sem, *]); try rfl) (by omega) (by simp only [go_sem, *]) ?_)))
      simp only at hk
      rcases Nat.lt_or_ge k ((i + j) / 2) with h | h
      · have := hs k _ y x hy hx h; have := of_decide_eq_true hc; omega
      · obtain rfl : k = (i + j) / 2 := by omega
        rw [hx] at hy; cases hy; exact of_decide_eq_true hc
    · refine again (i, (i + j) / 2) ⟨by simp only; omega, by simp only; omega, h1, fun k hk y hy => ?_⟩ (by simp only; omega) (by (refine q1l ?_ ?_ <;> repeat' (first | exact q0v | exact q0y | refine q0p (by (try simp only [go_sem, *]); try rfl) (by simp only [go_sem, *]) ?_ | refine q0z (by (try simp only [go_sem, *]); try rfl) (by omega) (by simp only [go_sem, *]) ?_ | refine q0x (by (try simp only [go_sem, *]); try rfl) (by omega) (by simp only [go_sem, *]) ?_)))
      simp only at hk
      have hc' := of_decide_eq_false hc
      rcases Nat.lt_or_ge ((i + j) / 2) k with h | h
      · have := hs _ k x y hx hy h; omega
      · obtain rfl : k = (i + j) / 2 := by omega
        rw [hx] at hy; cases hy; exact hc'
  · obtain rfl : i = j := by omega
    have h0 := q1q hge
    have hp := posZ_spot hj h1 (h2 i (Nat.le_refl _))
    have hany : l.any (· == n) = (match l[i]? with | some x => x == n | none => false) := by
      cases hx : l[i]? with
      | none =>
        simp only
        rw [List.any_eq_false]
        intro y hy
        obtain ⟨k, hk⟩ := List.getElem?_of_mem hy
        have hki : k < i := by
          rcases Nat.lt_or_ge k i with h | h
          · exact h
          · rw [List.getElem?_eq_none (by have := List.getElem?_eq_none_iff.1 hx; omega)] at hk; cases hk
        have := h1 k hki y hk
        simp; omega
      | some x =>
        simp only
        cases hxn : (x == n) with
        | true => exact List.any_eq_true.2 ⟨x, sidx hx, hxn⟩
        | false =>
          rw [List.any_eq_false]
          intro y hy
          obtain ⟨k, hk⟩ := List.getElem?_of_mem hy
          have hxn' : x ≠ n := by simpa using hxn
          have hx2 := h2 i (Nat.le_refl _) x hx
          rcases Nat.lt_trichotomy k i with h | h | h
          · have := h1 k h y hk; simp; omega
          · subst h; rw [hx] at hk; cases hk; simpa using hxn'
          · have := hs i k x y hx hk h; simp; omega
    rw [hp, hany]
    clear hany h1 h2
    rcases Nat.lt_or_ge i l.length with hil | hil
    · obtain ⟨x, hx⟩ := q2b hil
      have h3 := q2h hil
      rw [hx]
      simp only
      cases hxn : (x == n) with
      | true =>
        repeat' (first | (show q0i ..; first | refine q0c ?_ | refine q0e rfl ?_ | refine q1a rfl rfl ?_) | (show q0k ..; refine q0f rfl rfl ?_) | (show goOn ..; refine q0g ?_) | (show wGo ..; first | refine q3h ?_ | refine q4y ?_ | refine gw_u ?_) | (show q0d ..; first | refine q0h ?_ | refine q0b ?_ | refine q0t ?_ | refine q1s ?_ | refine q0j ?_) | (show q0o ..; refine cd_f ?_) | refine q0a ?_ | refine q1r ?_ | refine q1t ?_ | (show retQ ..; refine q0u ?_) | refine q0n ?_)
        all_goals rfl
      | false =>
        repeat' (first | (show q0i ..; first | refine q0c ?_ | refine q0e rfl ?_ | refine q1a rfl rfl ?_) | (show q0k ..; first | refine q0f rfl rfl ?_ | refine q0l rfl ?_) | (show goOn ..; refine q0g ?_) | (show q1k ..; (refine q0r (r := ?_) ?_ ?_; rotate_left 1; (focus exact sl_nan _))) | (show wGo ..; first | refine q3h ?_ | refine q4b ?_ | refine q3r ?_) | (show q0d ..; first | refine q0h ?_ | refine q0b ?_ | refine q0t ?_ | refine q1s ?_ | refine q0j ?_) | (show q0o ..; refine cd_f ?_) | refine q0a ?_ | refine q1r ?_ | refine q1t ?_ | (show retQ ..; refine q0u ?_) | refine q0n ?_)
        all_goals rfl
    · have h3 := q1q hil
      rw [List.getElem?_eq_none hil]
      simp only
      repeat' (first | (show q0i ..; first | refine q0c ?_ | refine q0e rfl ?_ | refine q1a rfl rfl ?_) | (show q0k ..; refine q0f rfl rfl ?_) | (show goOn ..; refine q0g ?_) | (show wGo ..; first | refine q3r ?_ | refine gw_u ?_) | (show q0d ..; first | refine q0h ?_ | refine q0b ?_ | refine q0t ?_ | refine q1s ?_ | refine q0j ?_) | (show q0o ..; refine cd_f ?_) | refine q0a ?_ | refine q1r ?_ | refine q1t ?_ | (show retQ ..; refine q0u ?_) | refine q0n ?_)
      all_goals rfl
theorem obs_eq (t : List Pr) (o : Ob) (ht : q2x t = true) (ho : Okay o) (htl : t.length ≤ 20) : Pure Tryz.prog 294 [.sl (t.map Pr.enc), .sl ((q7g o).map Pr.enc)] (.bool (obsR t (q7g o))) := by
  have h1 := x0i t (by omega)
  rw [q9e ht] at h1
  have h2 := label_leq (q7g o) (t.map upPr) (by rw [shown_len, List.length_map]; have := ho.1; omega)
  rw [leq_eq (okay_fit ho).1 (up_fit ht)] at h2
  refine q2p (by kernel_rfl) (by simp only [go_sem, *]) (by simp only [go_sem, *]) Tryz.func294 Tryz.results294 rfl (by simp [Tryz.ntmps294]) (by kernel_rfl) ?_
  repeat' (first | (show q0i ..; first | refine q0c ?_ | refine q0e rfl ?_) | (show q0k ..; first | refine q0f rfl rfl ?_ | refine q0l rfl ?_) | (show goOn ..; refine q0g ?_) | (show q1k ..; (refine q0r (r := ?_) ?_ ?_; rotate_left 1; (focus first | exact h1 | exact h2))) | (show q0d ..; first | refine q0h ?_ | refine q0b ?_ | refine q0t ?_) | refine q0a ?_ | (show retQ ..; refine q0u ?_) | refine q0n ?_)
  all_goals rfl
theorem sees_csat {H : Heap} {m i : Nat} (t : Ob) (w : Wd) (o : Ob) (hb : H i = some (.box (q6s t w))) (hi : i < m) (ht : q2x t.label = true) (htl : t.label.length ≤ 20) (ho : Okay o) : CSat Tryz.prog 259 [.ptr i 0, .agg (Ob.enc o)] H m (fun out H' m' => out = .ret (.bool (seesR t o)) ∧ m ≤ m' ∧ ∀ j, j < m → H' j = H j) := by
  have h1 := obj_shown o (by have := ho.1; omega)
  rw [okay_shown ho] at h1
  have h2 := obs_eq t.label o ht ho htl
  have n0 : (i = m) = False := eq_false (by omega)
  refine q4s (by kernel_rfl) Tryz.func259 Tryz.results259 rfl (by simp [Tryz.ntmps259]) (by kernel_rfl) ?_
  repeat' (first | (show q0i ..; first | refine q0c ?_ | refine q0e rfl ?_) | (show q0k ..; refine q0f rfl rfl ?_) | (show goOn ..; first | refine q0g ?_ | refine q1d ?_) | (show dr ..; first | refine q1y ?_ | refine dr_n rfl ?_) | (show drGo ..; first | refine q2t rfl ?_ | refine q2k rfl ?_) | (show drOn ..; refine q1z ?_) | (show q2e ..; (refine q1f (r := ?_) ?_ ?_; rotate_left 1; (focus first | exact h1 | exact h2))) | (refine And.intro (by kernel_rfl : q1n _ = true) ?_) | (show q0d ..; first | refine q0h ?_ | refine q0b ?_ | refine q1o (by kernel_rfl) ?_ | refine q0t ?_) | refine q0a ?_ | (show retQ ..; refine q0u ?_) | refine q0n ?_)
  refine ⟨rfl, by omega, fun j hj => q1b _ _ (by omega)⟩
theorem sees_q {H : Heap} {m i : Nat} (t : Ob) (w : Wd) (o : Ob) (hb : H i = some (.box (q6s t w))) (hi : i < m) (ht : q2x t.label = true) (htl : t.label.length ≤ 20) (ho : Okay o) : CallQ Tryz.prog 259 [.ptr i 0, .agg (Ob.enc o)] H m (.bool (seesR t o)) :=
  fun H' m' hm hH => sees_csat t w o (by rw [hH i hi]; exact hb) (by omega) ht htl ho
theorem changes_csat {H : Heap} {m i : Nat} (t : Ob) (w : Wd) (o : Ob) (hb : H i = some (.box (q6s t w))) (hi : i < m) (ht : q2x t.label = true) (htl : t.label.length ≤ 20) (ho : Okay o) : CSat Tryz.prog 241 [.ptr i 0, .agg (Ob.enc o)] H m (fun out H' m' => out = .ret (.bool (chgR t o)) ∧ m ≤ m' ∧ ∀ j, j < m → H' j = H j) := by
  have h2 := label_leq t.label o.label (by have := ho.1; omega)
  rw [leq_eq ht (okay_fit ho).2] at h2
  have n0 : (i = m) = False := eq_false (by omega)
  have hq := sees_q (H := hset H m (some (.box (Ob.enc o)))) (m := m + 1) (i := i) t w o (by rw [q1b _ _ (by omega)]; exact hb) (by omega) ht htl ho
  unfold chgR
  generalize seesR t o = b at hq
  cases b with
  | false =>
    refine q4s (by kernel_rfl) Tryz.func241 Tryz.results241 rfl (by simp [Tryz.ntmps241]) (by kernel_rfl) ?_
    repeat' (first | (show q0i ..; first | refine q0c ?_ | refine q0e rfl ?_) | (show q0k ..; refine q0f rfl rfl ?_) | (show goOn ..; first | refine q0g ?_ | refine q1d ?_) | (show wGo ..; refine q3r ?_) | (show drq ..; first | refine dq_nil ?_ | refine dq_n rfl ?_ | refine dq_w' rfl rfl ?_) | (show dqGo ..; first | refine dq_ev rfl ?_ | refine dq_call rfl ?_) | (show dqcGo ..; refine dqc_q ( hq) ?_) | (show q0d ..; first | refine q0h ?_ | refine q0b ?_ | refine pc_drawQ (by kernel_rfl) ?_) | refine q0a ?_)
    intro H' m' h3 h4
    repeat' (first | (show q0d ..; refine q0t ?_) | refine q0a ?_ | (show retQ ..; refine q0u ?_) | refine q0n ?_)
    refine ⟨rfl, by omega, fun j hj => by rw [h4 j (by omega)]; exact q1b _ _ (by omega)⟩
  | true =>
    refine q4s (by kernel_rfl) Tryz.func241 Tryz.results241 rfl (by simp [Tryz.ntmps241]) (by kernel_rfl) ?_
    repeat' (first | (show q0i ..; first | refine q0c ?_ | refine q0e rfl ?_) | (show q0k ..; refine q0f rfl rfl ?_) | (show goOn ..; first | refine q0g ?_ | refine q1d ?_) | (show wGo ..; refine q3h ?_) | (show drq ..; first | refine dq_nil ?_ | refine dq_n rfl ?_ | refine dq_w' rfl rfl ?_) | (show dqGo ..; first | refine dq_ev rfl ?_ | refine dq_call rfl ?_) | (show dqcGo ..; first | refine dqc_q ( hq) ?_ | (refine dqc_pure (r := ?_) ?_ ?_; rotate_left 1; (focus exact h2))) | (show q0d ..; first | refine q0h ?_ | refine q0b ?_ | refine pc_drawQ (by kernel_rfl) ?_) | refine q0a ?_)
    intro H' m' h3 h4
    repeat' (first | (show q0d ..; refine q0t ?_) | refine q0a ?_ | (show retQ ..; refine q0u ?_) | refine q0n ?_)
    refine ⟨rfl, by omega, fun j hj => by rw [h4 j (by omega)]; exact q1b _ _ (by omega)⟩
theorem must_yes (H : Heap) (m : Nat) (p : PV) (e : Int) : CSat Tryz.prog 240 [p, .bool true, .int .i64 e] H m (fun out H' m' => (∃ r, out = .ret r) ∧ H' = H ∧ m' = m) := by
  refine q4s (by kernel_rfl) Tryz.func240 Tryz.results240 rfl (by simp [Tryz.ntmps240]) (by kernel_rfl) ?_
  repeat' (first | (show q0i ..; first | refine q0c ?_ | refine q0e rfl ?_) | (show q0k ..; refine q0f rfl rfl ?_) | (show goOn ..; refine q0g ?_) | (show q0d ..; first | refine q0h ?_ | refine q0b ?_ | refine q0s ?_ | refine q0j ?_) | (show q0o ..; refine cd_f ?_) | refine q0a ?_ | (show retQ ..; refine x0o ?_) | refine q0n ?_)
  exact ⟨⟨_, rfl⟩, rfl, rfl⟩
theorem must_no (H : Heap) (m : Nat) (p : PV) (e : Int) : CSat Tryz.prog 240 [p, .bool false, .int .i64 e] H m (fun out H' m' => out = .pan (thr e) ∧ H' = H ∧ m' = m) := by
  refine q4s (by kernel_rfl) Tryz.func240 Tryz.results240 rfl (by simp [Tryz.ntmps240]) (by kernel_rfl) ?_
  repeat' (first | (show q0i ..; first | refine q0c ?_ | refine q0e rfl ?_) | (show q0k ..; refine q0f rfl rfl ?_) | (show goOn ..; refine q0g ?_) | (show q0d ..; first | refine q0h ?_ | refine q0b ?_ | refine q0j ?_) | (show q0o ..; refine cd_t ?_) | refine q0a ?_)
  refine run_panic rfl rfl (by (try simp only [go_sem]); exact nm) (pan_some ?_)
  repeat' (first | refine q4l ?_ | refine q4w ?_ | refine q4u ?_)
  exact ⟨rfl, rfl, rfl⟩
def outE (r : Ob × Int) : Out := if (r.2 == 0) = true then .ret (.agg (Ob.enc r.1)) else .pan (thr r.2)
theorem dir_csat {H : Heap} {m i : Nat} (t : Ob) (w : Wd) (id : Int) (write : Bool) (hb : H i = some (.box (q6s t w))) (hi : i < m) (ht : q2x t.label = true) (htl : t.label.length ≤ 20) (hf : FewW w) (hw : q6q w = true) :
    CSat Tryz.prog 292 [.ptr i 0, .int .u64 id, .bool write] H m (fun out H' m' => out = outE (dirR w t id write) ∧ m ≤ m' ∧ ∀ j, j < m → H' j = H j) := by
  have hn := hf.n
  have h1 := obj_find w id (by omega) (q5q hw).1
  rw [findO_eq (q5q hw).1] at h1
  have ho := x0r hf hw id
  unfold dirR
  generalize q2i w id = F at h1 ho
  obtain ⟨d, ok⟩ := F
  simp only at h1 ho ⊢
  have n0 : (i = m) = False := eq_false (by omega)
  have n1 : (i = m + 1) = False := eq_false (by omega)
  have n2 : (i = m + 1 + 1) = False := eq_false (by omega)
  have seesC := fun (H : Heap) (m : Nat) (hb : H i = some (.box (q6s t w))) (hi : i < m) => sees_csat (H := H) (m := m) t w d hb hi ht htl ho
  have chgC := fun (H : Heap) (m : Nat) (hb : H i = some (.box (q6s t w))) (hi : i < m) => changes_csat (H := H) (m := m) t w d hb hi ht htl ho
  generalize seesR t d = b2 at seesC ⊢
  generalize chgR t d = b3 at chgC ⊢
  cases ok with
  | false =>
    refine q4s (by kernel_rfl) Tryz.func292 Tryz.results292 rfl (by simp [Tryz.ntmps292]) (by kernel_rfl) ?_
    repeat' (first | (show q0i ..; first | refine q0c ?_ | refine q0e rfl ?_ | refine q1a rfl rfl ?_) | (show q0k ..; first | refine q0f rfl rfl ?_ | refine q0l rfl ?_) | (show goOn ..; first | refine q0g ?_ | refine q1d ?_ | refine q1x ?_) | (show q2w ..; refine q1h ?_) | (show q1k ..; (refine q0r (r := ?_) ?_ ?_; rotate_left 1; (focus exact h1))) | (show wGo ..; refine q3r ?_) | (show q0d ..; first | refine q0h ?_ | refine q0b ?_) | refine q0a ?_)
    (refine q0w (by kernel_rfl) (must_no _ _ _ _) ?_ ?_)
    case refine_1 => rintro r H' m' ⟨h, _⟩; cases h
    rintro p H' m' ⟨h, rfl, rfl⟩
    cases h
    repeat' (first | refine q4l ?_ | refine q4w ?_ | refine q4u ?_)
    exact ⟨rfl, by omega, (fun j hj => by repeat rw [q1b _ _ (by omega)])⟩
  | true =>
  cases hk : (d.kind == 2) with
  | false =>
    refine q4s (by kernel_rfl) Tryz.func292 Tryz.results292 rfl (by simp [Tryz.ntmps292]) (by kernel_rfl) ?_
    repeat' (first | (show q0i ..; first | refine q0c ?_ | refine q0e rfl ?_ | refine q1a rfl rfl ?_) | (show q0k ..; first | refine q0f rfl rfl ?_ | refine q0l rfl ?_) | (show goOn ..; first | refine q0g ?_ | refine q1d ?_ | refine q1x ?_) | (show q2w ..; refine q1h ?_) | (show q1k ..; (refine q0r (r := ?_) ?_ ?_; rotate_left 1; (focus exact h1))) | (show wGo ..; first | refine q3h ?_ | refine q3r ?_) | (show q0d ..; first | refine q0h ?_ | refine q0b ?_) | refine q0a ?_)
    (refine q0w (by kernel_rfl) (must_no _ _ _ _) ?_ ?_)
    case refine_1 => rintro r H' m' ⟨h, _⟩; cases h
    rintro p H' m' ⟨h, rfl, rfl⟩
    cases h
    repeat' (first | refine q4l ?_ | refine q4w ?_ | refine q4u ?_)
    exact ⟨rfl, by omega, (fun j hj => by repeat rw [q1b _ _ (by omega)])⟩
  | true =>
  cases b2 with
  | false =>
    refine q4s (by kernel_rfl) Tryz.func292 Tryz.results292 rfl (by simp [Tryz.ntmps292]) (by kernel_rfl) ?_
    repeat' (first | (show q0i ..; first | refine q0c ?_ | refine q0e rfl ?_ | refine q1a rfl rfl ?_) | (show q0k ..; first | refine q0f rfl rfl ?_ | refine q0l rfl ?_) | (show goOn ..; first | refine q0g ?_ | refine q1d ?_ | refine q1x ?_) | (show q2w ..; refine q1h ?_) | (show q1k ..; (refine q0r (r := ?_) ?_ ?_; rotate_left 1; (focus exact h1))) | (show wGo ..; refine q3h ?_) | (show q0d ..; first | refine q0h ?_ | refine q0b ?_) | refine q0a ?_)
    (refine q0w (by kernel_rfl) (seesC _ _ (by simp only [go_sem, *]) (by omega)) ?_ ?_)
    case refine_2 => rintro p H' m' ⟨h, _⟩; cases h
    rintro r H1 m1 ⟨h, L1, A1⟩
    cases h
    repeat' (first | (show q0i ..; refine q0e rfl ?_) | (show q0k ..; first | refine q0f rfl rfl ?_ | refine q0l rfl ?_) | (show goOn ..; refine q0g ?_))
    (refine q0w (by kernel_rfl) (must_no _ _ _ _) ?_ ?_)
    case refine_1 => rintro r H' m' ⟨h, _⟩; cases h
    rintro p H' m' ⟨h, rfl, rfl⟩
    cases h
    repeat' (first | refine q4l ?_ | refine q4w ?_ | refine q4u ?_)
    exact ⟨rfl, by omega, (fun j hj => by rw [A1 j (by omega)]; repeat rw [q1b _ _ (by omega)])⟩
  | true =>
    refine q4s (by kernel_rfl) Tryz.func292 Tryz.results292 rfl (by simp [Tryz.ntmps292]) (by kernel_rfl) ?_
    repeat' (first | (show q0i ..; first | refine q0c ?_ | refine q0e rfl ?_ | refine q1a rfl rfl ?_) | (show q0k ..; first | refine q0f rfl rfl ?_ | refine q0l rfl ?_) | (show goOn ..; first | refine q0g ?_ | refine q1d ?_ | refine q1x ?_) | (show q2w ..; refine q1h ?_) | (show q1k ..; (refine q0r (r := ?_) ?_ ?_; rotate_left 1; (focus exact h1))) | (show wGo ..; refine q3h ?_) | (show q0d ..; first | refine q0h ?_ | refine q0b ?_) | refine q0a ?_)
    (refine q0w (by kernel_rfl) (seesC _ _ (by simp only [go_sem, *]) (by omega)) ?_ ?_)
    case refine_2 => rintro p H' m' ⟨h, _⟩; cases h
    rintro r H1 m1 ⟨h, L1, A1⟩
    cases h
    have low : ∀ j, j < m → H1 j = H j := fun j hj => by rw [A1 j (by omega)]; repeat rw [q1b _ _ (by omega)]
    have c0 : H1 i = some (.box (q6s t w)) := by rw [A1 i (by omega)]; simp only [go_sem, *]
    have c1 : H1 (m + 1) = some (.box (Ob.enc d)) := by rw [A1 (m + 1) (by omega)]; simp only [go_sem, *]
    have c2 : H1 m = some (.box (Ob.enc Ob.zero)) := by rw [A1 m (by omega)]; simp only [go_sem, *]
    clear A1
    repeat' (first | (show q0i ..; refine q0e rfl ?_) | (show q0k ..; first | refine q0f rfl rfl ?_ | refine q0l rfl ?_) | (show goOn ..; refine q0g ?_))
    (refine q0w (by kernel_rfl) (must_yes _ _ _ _) ?_ ?_)
    case refine_2 => rintro p H' m' ⟨⟨_, h⟩, _⟩; cases h
    rintro r H' m' ⟨⟨_, h⟩, rfl, rfl⟩
    clear h
    cases write with
    | false =>
      repeat' (first | (show q0i ..; first | refine q0c ?_ | refine q0e rfl ?_ | refine q1a rfl rfl ?_) | (show q0k ..; first | refine q0f rfl rfl ?_ | refine q0l rfl ?_) | (show goOn ..; refine q0g ?_) | (show wGo ..; refine q4y ?_) | (show q0d ..; first | refine q0h ?_ | refine q0b ?_) | refine q0a ?_)
      (refine q0w (by kernel_rfl) (must_yes _ _ _ _) ?_ ?_)
      case refine_2 => rintro p H' m' ⟨⟨_, h⟩, _⟩; cases h
      rintro r H' m' ⟨⟨_, h⟩, rfl, rfl⟩
      clear h
      repeat' (first | (show q0i ..; first | refine q0c ?_ | refine q0e rfl ?_) | (show q0k ..; refine q0f rfl rfl ?_) | (show goOn ..; first | refine q0g ?_ | refine q1x ?_) | (show q2w ..; refine q1h ?_) | (show q0d ..; first | refine q0h ?_ | refine q0b ?_ | refine q0t ?_) | refine q0a ?_ | (show retQ ..; refine q0u ?_) | refine q0n ?_)
      exact ⟨rfl, by omega, fun j hj => by rw [q1b _ _ (by omega)]; exact low j hj⟩
    | true =>
      repeat' (first | (show q0i ..; first | refine q0c ?_ | refine q0e rfl ?_ | refine q1a rfl rfl ?_) | (show q0k ..; first | refine q0f rfl rfl ?_ | refine q0l rfl ?_) | (show goOn ..; refine q0g ?_) | (show wGo ..; refine q4b ?_) | (show q0d ..; first | refine q0h ?_ | refine q0b ?_) | refine q0a ?_)
      (refine q0w (by kernel_rfl) (chgC _ _ c0 (by omega)) ?_ ?_)
      case refine_2 => rintro p H' m' ⟨h, _⟩; cases h
      rintro r H2 m2 ⟨h, L2, A2⟩
      cases h
      have low2 : ∀ j, j < m → H2 j = H j := fun j hj => by rw [A2 j (by omega)]; exact low j hj
      have e1 : H2 (m + 1) = some (.box (Ob.enc d)) := by rw [A2 (m + 1) (by omega)]; exact c1
      have e2 : H2 m = some (.box (Ob.enc Ob.zero)) := by rw [A2 m (by omega)]; exact c2
      clear A2 low c0 c1 c2
      cases b3 with
      | false =>
        repeat' (first | (show q0i ..; refine q0e rfl ?_) | (show q0k ..; first | refine q0f rfl rfl ?_ | refine q0l rfl ?_) | (show goOn ..; refine q0g ?_))
        (refine q0w (by kernel_rfl) (must_no _ _ _ _) ?_ ?_)
        case refine_1 => rintro r H' m' ⟨h, _⟩; cases h
        rintro p H' m' ⟨h, rfl, rfl⟩
        cases h
        repeat' (first | refine q4l ?_ | refine q4w ?_ | refine q4u ?_)
        exact ⟨rfl, by omega, low2⟩
      | true =>
        repeat' (first | (show q0i ..; refine q0e rfl ?_) | (show q0k ..; first | refine q0f rfl rfl ?_ | refine q0l rfl ?_) | (show goOn ..; refine q0g ?_))
        (refine q0w (by kernel_rfl) (must_yes _ _ _ _) ?_ ?_)
        case refine_2 => rintro p H' m' ⟨⟨_, h⟩, _⟩; cases h
        rintro r H' m' ⟨⟨_, h⟩, rfl, rfl⟩
        clear h
        repeat' (first | (show q0i ..; first | refine q0c ?_ | refine q0e rfl ?_) | (show q0k ..; refine q0f rfl rfl ?_) | (show goOn ..; first | refine q0g ?_ | refine q1x ?_) | (show q2w ..; refine q1h ?_) | (show q0d ..; first | refine q0h ?_ | refine q0b ?_ | refine q0t ?_) | refine q0a ?_ | (show retQ ..; refine q0u ?_) | refine q0n ?_)
        exact ⟨rfl, by omega, fun j hj => by rw [q1b _ _ (by omega)]; exact low2 j hj⟩
end Go.Proofs.YtoibbedpaaeclaaGreat
end
