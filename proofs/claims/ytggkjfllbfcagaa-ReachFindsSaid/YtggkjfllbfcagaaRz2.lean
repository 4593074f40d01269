import Derived.Test.YtggkjfllbfcagaaRz0
import Derived.Test.YtggkjfllbfcagaaRz1
import Derived.Test.YtggkjfllbfcagaaEvr
import Derived.Maps.AppendAt
import Derived.Below
import Derived.Deep.Draws
import Derived.Deep.AppendLies
import Derived.OwnWalk
import Derived.Laws.Slices
import Derived.WalkKit
import Derived.KernelRfl
import Derived.RowKit3
import Derived.Deep.LoopGhost
import Derived.WideLaws
import Derived.Laws.BytesArg
import Derived.Laws.MakeOwn
import Derived.Laws.OwnMore
import Derived.Deep.OwnRows
import Derived.Tactics
import Derived.Lib.ConvBytes
import Derived.Deep.Quiet
import Derived.Deep.QuietTactic
import Derived.BigQuiet
import Derived.Laws.CopyRow
import Derived.Laws.IdiomCopy
import Derived.Lib.SliceRun
import Derived.Lib.AppendZerosOnto
import Derived.Lib.Overlaps
import Derived.Laws.NewBlocks
import Derived.Shelf.RegionOpenPlain
import Derived.Test.YtggkjfllbfcagaaEa8
section
namespace Go.Proofs.Ytggkjfllbfcagaa
open Go Go.RowKit
set_option linter.unusedVariables false
set_option linter.unusedSimpArgs false
theorem ofL_of {a : Int} (h : 0 ≤ a ∧ a ≤ 5) : ofL a = a := if_pos h
def Sorted (l : Lab) : Prop := ∀ i j (hi : i < l.length) (hj : j < l.length), i < j → l[i].1 < l[j].1
def getL (l : Lab) (c : Int) : Int := match l.find? (fun p => p.1 == c) with
  | some p => p.2
  | none => 2
theorem Sorted.uniq {l : Lab} (h : Sorted l) {i j : Nat} (hi : i < l.length) (hj : j < l.length) (he : l[i].1 = l[j].1) : i = j := by
  rcases Nat.lt_trichotomy i j with hlt | rfl | hlt
  · have := h i j hi hj hlt; omega
  · rfl
  · have := h j i hj hi hlt; omega
theorem getL_at {l : Lab} (h : Sorted l) {i : Nat} (hi : i < l.length) : getL l l[i].1 = l[i].2 := by
  unfold getL
  cases hf : l.find? (fun p => p.1 == l[i].1) with
  | none => rw [List.find?_eq_none] at hf; exact absurd (by simp) (hf l[i] (List.getElem_mem _))
  | some p =>
    have h1 := List.find?_some hf
    obtain ⟨j, hj, rfl⟩ := List.getElem_of_mem (List.mem_of_find?_eq_some hf)
    have : j = i := h.uniq hj hi (by simpa using h1)
    subst this; rfl
def SortedP (l : Lab) : Prop := l.Pairwise (fun p q => p.1 < q.1)
theorem sorted_iff {l : Lab} : Sorted l ↔ SortedP l := by
  unfold Sorted SortedP
  rw [List.pairwise_iff_getElem]
/-- A fit label. -/
structure FitL (l : Lab) : Prop where
  sorted : SortedP l
  lev : ∀ p ∈ l, 0 ≤ p.2 ∧ p.2 ≤ 5 ∧ p.2 ≠ 2
theorem getL_nil (c : Int) : getL [] c = 2 := rfl
theorem getL_cons (p : Int × Int) (t : Lab) (c : Int) : getL (p :: t) c = if p.1 = c then p.2 else getL t c := by
  unfold getL
  by_cases h : p.1 = c
  · simp [List.find?_cons, h]
  · have : (p.1 == c) = false := by simpa using h
    simp [List.find?_cons, this, h]
theorem getL_out {l : Lab} {c : Int} (h : ∀ p ∈ l, p.1 ≠ c) : getL l c = 2 := by
  induction l with
  | nil => rfl
  | cons p t ih => rw [getL_cons, if_neg (h p (by simp)), ih (fun q hq => h q (by simp [hq]))]
theorem SortedP.tail {p : Int × Int} {t : Lab} (h : SortedP (p :: t)) : SortedP t := (List.pairwise_cons.1 h).2
theorem SortedP.head {p : Int × Int} {t : Lab} (h : SortedP (p :: t)) : ∀ q ∈ t, p.1 < q.1 := (List.pairwise_cons.1 h).1
theorem getL_head {p : Int × Int} {t : Lab} : getL (p :: t) p.1 = p.2 := by rw [getL_cons, if_pos rfl]
theorem getL_tail {p : Int × Int} {t : Lab} {c : Int} (h : p.1 ≠ c) : getL (p :: t) c = getL t c := by rw [getL_cons, if_neg h]
theorem getL_mem {l : Lab} (h : SortedP l) {p : Int × Int} (hp : p ∈ l) : getL l p.1 = p.2 := by
  obtain ⟨i, hi, rfl⟩ := List.getElem_of_mem hp
  exact getL_at (sorted_iff.2 h) hi
theorem getL_or {l : Lab} (h : SortedP l) (c : Int) : (∃ p ∈ l, p.1 = c ∧ getL l c = p.2) ∨ ((∀ p ∈ l, p.1 ≠ c) ∧ getL l c = 2) := by
  by_cases hx : ∃ p ∈ l, p.1 = c
  · obtain ⟨p, hp, rfl⟩ := hx
    exact .inl ⟨p, hp, rfl, getL_mem h hp⟩
  · have : ∀ p ∈ l, p.1 ≠ c := fun p hp he => hx ⟨p, hp, he⟩
    exact .inr ⟨this, getL_out this⟩
theorem getL_range {l : Lab} (h : FitL l) (c : Int) : 0 ≤ getL l c ∧ getL l c ≤ 5 := by
  rcases getL_or h.sorted c with ⟨p, hp, _, he⟩ | ⟨_, he⟩
  · have := h.lev p hp; omega
  · omega
theorem ofL_get {l : Lab} (h : FitL l) (c : Int) : ofL (getL l c) = getL l c := ofL_of (getL_range h c)
theorem mergeB_mem {a b : Lab} {x : Int × (Int × Int)} (hx : x ∈ mergeB a b) : (∃ p ∈ a, p.1 = x.1) ∨ (∃ q ∈ b, q.1 = x.1) := by
  fun_induction mergeB a b with
  | case1 => simp at hx
  | case2 p a ih =>
    rcases List.mem_cons.1 hx with rfl | hx
    · exact .inl ⟨p, by simp, rfl⟩
    · rcases ih hx with ⟨q, hq, he⟩ | ⟨q, hq, he⟩
      · exact .inl ⟨q, by simp [hq], he⟩
      · simp at hq
  | case3 q b ih =>
    rcases List.mem_cons.1 hx with rfl | hx
    · exact .inr ⟨q, by simp, rfl⟩
    · rcases ih hx with ⟨p, hp, he⟩ | ⟨p, hp, he⟩
      · simp at hp
      · exact .inr ⟨p, by simp [hp], he⟩
  | case4 p a q b hlt ih =>
    rcases List.mem_cons.1 hx with rfl | hx
    · exact .inl ⟨p, by simp, rfl⟩
    · rcases ih hx with ⟨r, hr, he⟩ | h
      · exact .inl ⟨r, by simp [hr], he⟩
      · exact .inr h
  | case5 p a q b hlt hgt ih =>
    rcases List.mem_cons.1 hx with rfl | hx
    · exact .inr ⟨q, by simp, rfl⟩
    · rcases ih hx with h | ⟨r, hr, he⟩
      · exact .inl h
      · exact .inr ⟨r, by simp [hr], he⟩
  | case6 p a q b hlt hgt ih =>
    rcases List.mem_cons.1 hx with rfl | hx
    · exact .inr ⟨q, by simp, rfl⟩
    · rcases ih hx with ⟨r, hr, he⟩ | ⟨r, hr, he⟩
      · exact .inl ⟨r, by simp [hr], he⟩
      · exact .inr ⟨r, by simp [hr], he⟩
theorem mergeB_sorted {a b : Lab} (ha : SortedP a) (hb : SortedP b) : (mergeB a b).Pairwise (fun x y => x.1 < y.1) := by
  fun_induction mergeB a b with
  | case1 => exact List.Pairwise.nil
  | case2 p a ih =>
    refine List.pairwise_cons.2 ⟨fun y hy => ?_, ih ha.tail hb⟩
    rcases mergeB_mem hy with ⟨q, hq, he⟩ | ⟨q, hq, he⟩
    · have := ha.head q hq; simp only; omega
    · simp at hq
  | case3 q b ih =>
    refine List.pairwise_cons.2 ⟨fun y hy => ?_, ih ha hb.tail⟩
    rcases mergeB_mem hy with ⟨p, hp, he⟩ | ⟨p, hp, he⟩
    · simp at hp
    · have := hb.head p hp; simp only; omega
  | case4 p a q b hlt ih =>
    refine List.pairwise_cons.2 ⟨fun y hy => ?_, ih ha.tail hb⟩
    rcases mergeB_mem hy with ⟨r, hr, he⟩ | ⟨r, hr, he⟩
    · have := ha.head r hr; simp only; omega
    · rcases List.mem_cons.1 hr with rfl | hr
      · simp only; omega
      · have := hb.head r hr; simp only; omega
  | case5 p a q b hlt hgt ih =>
    refine List.pairwise_cons.2 ⟨fun y hy => ?_, ih ha hb.tail⟩
    rcases mergeB_mem hy with ⟨r, hr, he⟩ | ⟨r, hr, he⟩
    · rcases List.mem_cons.1 hr with rfl | hr
      · simp only; omega
      · have := ha.head r hr; simp only; omega
    · have := hb.head r hr; simp only; omega
  | case6 p a q b hlt hgt ih =>
    refine List.pairwise_cons.2 ⟨fun y hy => ?_, ih ha.tail hb.tail⟩
    rcases mergeB_mem hy with ⟨r, hr, he⟩ | ⟨r, hr, he⟩
    · have := ha.head r hr; simp only; omega
    · have := hb.head r hr; simp only; omega
theorem mergeB_all {a b : Lab} : (∀ p ∈ a, ∃ x ∈ mergeB a b, x.1 = p.1) ∧ (∀ q ∈ b, ∃ x ∈ mergeB a b, x.1 = q.1) := by
  fun_induction mergeB a b with
  | case1 => simp
  | case2 p a ih =>
    refine ⟨fun r hr => ?_, fun r hr => by simp at hr⟩
    rcases List.mem_cons.1 hr with rfl | hr
    · exact ⟨_, List.mem_cons_self, rfl⟩
    · obtain ⟨x, hx, he⟩ := ih.1 r hr; exact ⟨x, List.mem_cons_of_mem _ hx, he⟩
  | case3 q b ih =>
    refine ⟨fun r hr => by simp at hr, fun r hr => ?_⟩
    rcases List.mem_cons.1 hr with rfl | hr
    · exact ⟨_, List.mem_cons_self, rfl⟩
    · obtain ⟨x, hx, he⟩ := ih.2 r hr; exact ⟨x, List.mem_cons_of_mem _ hx, he⟩
  | case4 p a q b hlt ih =>
    refine ⟨fun r hr => ?_, fun r hr => ?_⟩
    · rcases List.mem_cons.1 hr with rfl | hr
      · exact ⟨_, List.mem_cons_self, rfl⟩
      · obtain ⟨x, hx, he⟩ := ih.1 r hr; exact ⟨x, List.mem_cons_of_mem _ hx, he⟩
    · obtain ⟨x, hx, he⟩ := ih.2 r hr; exact ⟨x, List.mem_cons_of_mem _ hx, he⟩
  | case5 p a q b hlt hgt ih =>
    refine ⟨fun r hr => ?_, fun r hr => ?_⟩
    · obtain ⟨x, hx, he⟩ := ih.1 r hr; exact ⟨x, List.mem_cons_of_mem _ hx, he⟩
    · rcases List.mem_cons.1 hr with rfl | hr
      · exact ⟨_, List.mem_cons_self, rfl⟩
      · obtain ⟨x, hx, he⟩ := ih.2 r hr; exact ⟨x, List.mem_cons_of_mem _ hx, he⟩
  | case6 p a q b hlt hgt ih =>
    have hpq : p.1 = q.1 := by omega
    refine ⟨fun r hr => ?_, fun r hr => ?_⟩
    · rcases List.mem_cons.1 hr with rfl | hr
      · exact ⟨_, List.mem_cons_self, hpq.symm⟩
      · obtain ⟨x, hx, he⟩ := ih.1 r hr; exact ⟨x, List.mem_cons_of_mem _ hx, he⟩
    · rcases List.mem_cons.1 hr with rfl | hr
      · exact ⟨_, List.mem_cons_self, rfl⟩
      · obtain ⟨x, hx, he⟩ := ih.2 r hr; exact ⟨x, List.mem_cons_of_mem _ hx, he⟩
theorem getL_below {l : Lab} {c : Int} (h : ∀ p ∈ l, c < p.1) : getL l c = 2 := getL_out fun p hp => by have := h p hp; omega
theorem mergeB_val {a b : Lab} (ha : SortedP a) (hb : SortedP b) : ∀ x ∈ mergeB a b, x.2 = (getL a x.1, getL b x.1) := by
  fun_induction mergeB a b with
  | case1 => simp
  | case2 p a ih =>
    intro x hx
    have hs := mergeB_sorted ha hb
    rcases List.mem_cons.1 hx with rfl | hx
    · simp only; rw [getL_head, getL_nil]
    · rw [ih ha.tail hb x hx]
      rcases mergeB_mem hx with ⟨q, hq, he⟩ | ⟨q, hq, he⟩
      · have := ha.head q hq; rw [getL_tail (by omega)]
      · simp at hq
  | case3 q b ih =>
    intro x hx
    rcases List.mem_cons.1 hx with rfl | hx
    · simp only; rw [getL_head, getL_nil]
    · rw [ih ha hb.tail x hx]
      rcases mergeB_mem hx with ⟨r, hr, he⟩ | ⟨r, hr, he⟩
      · simp at hr
      · have := hb.head r hr; rw [getL_tail (by omega)]
  | case4 p a q b hlt ih =>
    intro x hx
    rcases List.mem_cons.1 hx with rfl | hx
    · simp only; rw [getL_head, getL_below (l := q :: b) (fun r hr => by
        rcases List.mem_cons.1 hr with rfl | hr
        · omega
        · have := hb.head r hr; omega)]
    · rw [ih ha.tail hb x hx]
      have hlt2 : p.1 < x.1 := by
        rcases mergeB_mem hx with ⟨r, hr, he⟩ | ⟨r, hr, he⟩
        · have := ha.head r hr; omega
        · rcases List.mem_cons.1 hr with rfl | hr
          · omega
          · have := hb.head r hr; omega
      rw [getL_tail (p := p) (by omega)]
  | case5 p a q b hlt hgt ih =>
    intro x hx
    rcases List.mem_cons.1 hx with rfl | hx
    · simp only; rw [getL_head, getL_below (l := p :: a) (fun r hr => by
        rcases List.mem_cons.1 hr with rfl | hr
        · omega
        · have := ha.head r hr; omega)]
    · rw [ih ha hb.tail x hx]
      have hlt2 : q.1 < x.1 := by
        rcases mergeB_mem hx with ⟨r, hr, he⟩ | ⟨r, hr, he⟩
        · rcases List.mem_cons.1 hr with rfl | hr
          · omega
          · have := ha.head r hr; omega
        · have := hb.head r hr; omega
      rw [getL_tail (p := q) (by omega)]
  | case6 p a q b hlt hgt ih =>
    have hpq : p.1 = q.1 := by omega
    intro x hx
    rcases List.mem_cons.1 hx with rfl | hx
    · simp only; rw [getL_head, ← hpq, getL_head]
    · rw [ih ha.tail hb.tail x hx]
      have hlt2 : q.1 < x.1 := by
        rcases mergeB_mem hx with ⟨r, hr, he⟩ | ⟨r, hr, he⟩
        · have := ha.head r hr; omega
        · have := hb.head r hr; omega
      rw [getL_tail (p := q) (by omega), getL_tail (p := p) (by omega)]
theorem merge_or {a b : Lab} (ha : SortedP a) (hb : SortedP b) (c : Int) : (∃ x ∈ mergeB a b, x.1 = c ∧ x.2 = (getL a c, getL b c)) ∨ ((∀ x ∈ mergeB a b, x.1 ≠ c) ∧ getL a c = 2 ∧ getL b c = 2) := by
  by_cases h : ∃ x ∈ mergeB a b, x.1 = c
  · obtain ⟨x, hx, rfl⟩ := h
    exact .inl ⟨x, hx, rfl, mergeB_val ha hb x hx⟩
  · have h' : ∀ x ∈ mergeB a b, x.1 ≠ c := fun x hx he => h ⟨x, hx, he⟩
    refine .inr ⟨h', getL_out fun p hp he => ?_, getL_out fun q hq he => ?_⟩
    · obtain ⟨x, hx, h2⟩ := mergeB_all.1 p hp; exact h' x hx (by omega)
    · obtain ⟨x, hx, h2⟩ := mergeB_all.2 q hq; exact h' x hx (by omega)
theorem leqB_iff {a b : Lab} (ha : FitL a) (hb : FitL b) : leqB a b = true ↔ ∀ c, getL a c ≤ getL b c := by
  unfold leqB
  rw [List.all_eq_true]
  constructor
  · intro h c
    rcases merge_or ha.sorted hb.sorted c with ⟨x, hx, rfl, he⟩ | ⟨_, h1, h2⟩
    · have := of_decide_eq_true (h x hx)
      rw [he] at this
      simpa only [ofL_get ha, ofL_get hb] using this
    · omega
  · intro h x hx
    have he := mergeB_val ha.sorted hb.sorted x hx
    rw [he]
    simp only [ofL_get ha, ofL_get hb]
    exact decide_eq_true (h x.1)
end Go.Proofs.Ytggkjfllbfcagaa
end

section
namespace Go.Proofs.Ytggkjfllbfcagaa
open Go Go.RowKit
set_option linter.unusedVariables false
set_option linter.unusedSimpArgs false
theorem labAt_get {l : List Pr} (h : labFit l = true) {k : Nat} {x : Pr} (hx : l[k]? = some x) : 0 ≤ x.lev ∧ x.lev ≤ 5 ∧ x.lev ≠ 2 ∧ ∀ j, k = j + 1 → ∀ y, l[j]? = some y → y.cat < x.cat := by
  have := allB_iff.1 h k (len_lt hx)
  unfold labFitAt at this
  rw [hx] at this
  simp only [Bool.and_eq_true, levFit, decide_eq_true_eq, Bool.not_eq_true', beq_eq_false_iff_ne, ne_eq] at this
  obtain ⟨⟨⟨h1, h2⟩, h3⟩, h4⟩ := this
  refine ⟨h1, h2, h3, ?_⟩
  rintro j rfl y hy
  simp only [hy, Bool.not_eq_true', decide_eq_false_iff_not] at h4
  omega
theorem fit_of {l : List Pr} (h : labFit l = true) : FitL (labOf l) := by
  have adj : ∀ (k : Nat) (x y : Pr), l[k]? = some y → l[k + 1]? = some x → y.cat < x.cat := fun k x y hy hx => (labAt_get h hx).2.2.2 k rfl y hy
  have far : ∀ (d i : Nat) (x y : Pr), l[i]? = some x → l[i + d + 1]? = some y → x.cat < y.cat := by
    intro d
    induction d with
    | zero => intro i x y hx hy; exact adj i y x hx hy
    | succ d ih =>
      intro i x y hx hy
      obtain ⟨z, hz⟩ := lt_len (by have := len_lt hy; omega : i + d + 1 < l.length)
      have h1 := ih i x z hx hz
      have h2 := adj (i + d + 1) y z hz (by rw [show i + d + 1 + 1 = i + (d + 1) + 1 by omega]; exact hy)
      omega
  refine ⟨sorted_iff.1 ?_, ?_⟩
  · intro i j hi hj hij
    simp only [labOf, List.getElem_map]
    have hi' : i < l.length := by simpa [labOf] using hi
    have hj' : j < l.length := by simpa [labOf] using hj
    exact far (j - i - 1) i _ _ (List.getElem?_eq_getElem hi') (by rw [show i + (j - i - 1) + 1 = j by omega]; exact List.getElem?_eq_getElem hj')
  · intro p hp
    obtain ⟨x, hx, rfl⟩ := List.mem_map.1 hp
    obtain ⟨k, hk⟩ := List.getElem?_of_mem hx
    obtain ⟨h1, h2, h3, _⟩ := labAt_get h hk
    exact ⟨h1, h2, h3⟩
theorem get_of (l : List Pr) (c : Int) : getL (labOf l) c = labGet l c := by
  unfold getL labGet labOf
  rw [List.find?_map]
  have : ((fun p : Int × Int => p.1 == c) ∘ fun p : Pr => (p.cat, p.lev)) = fun p : Pr => p.cat == c := rfl
  rw [this]
  cases l.find? (fun p => p.cat == c) <;> rfl
theorem levOf_fit {n : Int} (h : 0 ≤ n ∧ n ≤ 5) : levOf n = n := by
  unfold levOf levFit; rw [if_pos]; simp only [Bool.and_eq_true, decide_eq_true_eq]; omega
theorem levLeq_iff {x y : Int} (hx : 0 ≤ x ∧ x ≤ 5) (hy : 0 ≤ y ∧ y ≤ 5) : levLeq x y = true ↔ x ≤ y := by
  unfold levLeq; rw [levOf_fit hx, levOf_fit hy, decide_eq_true_eq]
theorem leq_eq {a b : List Pr} (ha : labFit a = true) (hb : labFit b = true) : labLeq a b = leqR a b := by
  have fa := fit_of ha
  have fb := fit_of hb
  have ra := getL_range fa
  have rb := getL_range fb
  have ga : ∀ {k : Nat} {x : Pr}, a[k]? = some x → getL (labOf a) x.cat = x.lev := fun hx => getL_mem fa.sorted (p := (_, _)) (List.mem_map.2 ⟨_, List.mem_of_getElem? hx, rfl⟩)
  have gb : ∀ {k : Nat} {x : Pr}, b[k]? = some x → getL (labOf b) x.cat = x.lev := fun hx => getL_mem fb.sorted (p := (_, _)) (List.mem_map.2 ⟨_, List.mem_of_getElem? hx, rfl⟩)
  rw [Bool.eq_iff_iff]
  unfold labLeq leqR
  rw [leqB_iff fa fb, Bool.and_eq_true, allB_iff, allB_iff]
  constructor
  · intro h
    refine ⟨fun j hj => ?_, fun j hj => ?_⟩
    · obtain ⟨x, hx⟩ := lt_len hj
      obtain ⟨h1, h2, _⟩ := labAt_get ha hx
      unfold leqAt; rw [hx]; simp only
      rw [← get_of, levLeq_iff ⟨h1, h2⟩ (rb _), ← ga hx]
      exact h x.cat
    · obtain ⟨x, hx⟩ := lt_len hj
      obtain ⟨h1, h2, _⟩ := labAt_get hb hx
      unfold geqAt; rw [hx]; simp only
      rw [← get_of, levLeq_iff (ra _) ⟨h1, h2⟩, ← gb hx]
      exact h x.cat
  · rintro ⟨h1, h2⟩ c
    rcases getL_or fa.sorted c with ⟨p, hp, rfl, he⟩ | ⟨_, he⟩
    · obtain ⟨x, hx, rfl⟩ := List.mem_map.1 hp
      obtain ⟨k, hk⟩ := List.getElem?_of_mem hx
      have := h1 k (len_lt hk)
      obtain ⟨g1, g2, _⟩ := labAt_get ha hk
      unfold leqAt at this; rw [hk] at this; simp only at this
      rw [← get_of, levLeq_iff ⟨g1, g2⟩ (rb _)] at this
      rw [he]; exact this
    · rcases getL_or fb.sorted c with ⟨q, hq, rfl, he2⟩ | ⟨_, he2⟩
      · obtain ⟨x, hx, rfl⟩ := List.mem_map.1 hq
        obtain ⟨k, hk⟩ := List.getElem?_of_mem hx
        have := h2 k (len_lt hk)
        obtain ⟨g1, g2, _⟩ := labAt_get hb hk
        unfold geqAt at this; rw [hk] at this; simp only at this
        rw [← get_of, levLeq_iff (ra _) ⟨g1, g2⟩] at this
        rw [he2]; exact this
      · rw [he, he2]; exact Int.le_refl _
theorem merge_nil (l : Lab) : mergeB l [] = l.map (fun p => (p.1, (p.2, 2))) := by
  induction l with
  | nil => rw [mergeB]; rfl
  | cons p t ih => rw [mergeB, ih]; rfl
theorem ofL_levOf (n : Int) : ofL n = levOf n := by
  unfold ofL levOf levFit
  by_cases h : 0 ≤ n ∧ n ≤ 5
  · rw [if_pos h, if_pos (by simp only [Bool.and_eq_true, decide_eq_true_eq]; omega)]
  · rw [if_neg h, if_neg (by simp only [Bool.and_eq_true, decide_eq_true_eq]; omega)]
theorem raL_levUp (n : Int) : raL n = levUp n := by
  unfold raL levUp
  rw [ofL_levOf]
  by_cases h : levOf n = 0
  · rw [if_pos h, if_pos (by rw [h]; rfl)]
  · rw [if_neg h, if_neg (by simpa using h)]
theorem fm_map {α β : Type} (f : α → Option β) (g : α → β) : ∀ (l : List α), (∀ x ∈ l, f x = some (g x)) → l.filterMap f = l.map g
  | [], _ => rfl
  | x :: l, h => by
    rw [List.filterMap_cons, h x (by simp), List.map_cons, fm_map f g l (fun y hy => h y (by simp [hy]))]
theorem raise_eq {l : List Pr} (h : labFit l = true) : labRaise l = l.map upPr := by
  unfold labRaise foldB
  rw [merge_nil]
  unfold foldX labOf
  rw [List.map_map, List.filterMap_map, List.map_filterMap]
  refine fm_map _ _ l (fun x hx => ?_)
  obtain ⟨k, hk⟩ := List.getElem?_of_mem hx
  obtain ⟨h1, h2, h3, _⟩ := labAt_get h hk
  have : raL x.lev ≠ 2 := by unfold raL; rw [ofL_of ⟨h1, h2⟩]; split <;> omega
  have h5 : levUp x.lev ≠ 2 := by rw [← raL_levUp]; exact this
  simp [Function.comp, ofPair, upPr, raL_levUp, h5]
theorem kept_fit {l : List Pr} (h : kept l = true) : labFit l = true := by
  unfold kept at h; simp only [Bool.and_eq_true] at h; exact h.2.2
theorem labsEq_refl (a : Th) : allB 4 (labsEq a a) = true := allB_true fun j _ => decide_eq_true rfl
theorem regsEq_refl (f : Nat → Int) : regsEq f f = true := by unfold regsEq; simp
theorem sameTh_refl (a : Th) : sameTh a a = true := by unfold sameTh; simp [labsEq_refl, regsEq_refl]
theorem sameGt_refl (a : Gt) : sameGt a a = true := by unfold sameGt; simp
theorem sameOb_refl (a : Ob) : sameOb a a = true := by unfold sameOb; simp [sameTh_refl, sameGt_refl]
theorem sound_kept {o : Ob} (h : sound o = true) : kept o.label = true := by
  unfold sound soundHead at h
  simp only [Bool.and_eq_true] at h
  exact h.1.2.2.2.1
theorem shown_eq {o : Ob} (h : sound o = true) : shownOf o = shownR o := by
  unfold shownOf shownR
  rw [raise_eq (kept_fit (sound_kept h))]
theorem shown_len {o : Ob} : (shownR o).length = o.label.length := by unfold shownR; split <;> simp
end Go.Proofs.Ytggkjfllbfcagaa
end

section
namespace Go.Proofs.Ytggkjfllbfcagaa
open Go Go.RowKit Go.Shelf
set_option linter.unusedVariables false
set_option linter.unusedSimpArgs false
section
variable {P : Program} {sz : Nat}
end
end Go.Proofs.Ytggkjfllbfcagaa
end

section
namespace Go.Proofs.Ytggkjfllbfcagaa
open Go Go.RowKit
set_option linter.unusedVariables false
set_option linter.unusedSimpArgs false
end Go.Proofs.Ytggkjfllbfcagaa
end

section
namespace Go.Proofs.Ytggkjfllbfcagaa
open Go Go.RowKit
set_option linter.unusedVariables false
set_option linter.unusedSimpArgs false
section
variable {P : Program} {fn T sz : Nat}
end
end Go.Proofs.Ytggkjfllbfcagaa
end

section
namespace Go.Proofs.Ytggkjfllbfcagaa
open Go Go.RowKit
set_option linter.unusedVariables false
set_option linter.unusedSimpArgs false
set_option maxHeartbeats 16000000
set_option maxRecDepth 100000
@[go_sem high] theorem half_ev (t : TypeId) (n : Nat) : evBin Try.prog .shr t (.int .u64 (n : Int)) (.int .u64 1) = some (.int .u64 ((n / 2 : Nat) : Int)) := by
  have : (n : Int).fdiv (2 ^ min (1 : Int).toNat IntKind.u64.bits) = ((n / 2 : Nat) : Int) := by
    rw [show (2 : Int) ^ min (1 : Int).toNat IntKind.u64.bits = 2 by decide, Int.fdiv_eq_ediv_of_nonneg _ (by decide)]; omega
  show eShift .shr .u64 n 1 = _
  unfold eShift
  rw [if_neg (by decide), this]
def LsO (l : List Ob) : Ls := ⟨l, .fn (.func 178) [] []⟩
@[go_sem] theorem lsO_things (l : List Ob) : (LsO l).things = l := rfl
@[go_sem] theorem lsO_idf (l : List Ob) : (LsO l).idf = .fn (.func 178) [] [] := rfl
def lsG (l : List Ob) : List (Nat × HE) := [(0, .box (Ls.enc (LsO l)))]
theorem lsG_bd (S : Nat → Prop) (l : List Ob) : BdL S (Ls.enc (LsO l)) := by
  show BdL S ([.sl (List.map Ob.enc l)] ++ [.fn (.func 178) [] []])
  simp only [go_sem]
theorem lsG_1 (l : List Ob) : ∀ i, 1 ≤ i → heapL (lsG l) i = none := fun i hi => by unfold lsG; rw [heapL_cons, if_neg (by omega)]; rfl
theorem lsG_2 (l : List Ob) : ∀ i k, heapL (lsG l) i = some (.box k) → ∀ p ∈ k, Bd (LV (heapL (lsG l))) p := fun i k h => by
  unfold lsG at h
  rw [heapL_cons] at h
  split at h
  · cases h; exact lsG_bd _ l
  · cases h
theorem lsG_3 (l : List Ob) : ∀ i e sz els, heapL (lsG l) i ≠ some (.row e sz els) := fun i e sz els h => by
  unfold lsG at h
  rw [heapL_cons] at h
  split at h <;> cases h
theorem lsG_lv (l : List Ob) : LV (heapL (lsG l)) 0 := by unfold lsG; simp only [go_sem]
theorem keepK_i {m0 : Nat} {G : List (Nat × HE)} {env : Env} {H : Heap} {E : List (Nat × PV)} (h1 : ∀ i, i < m0 → H i = heapL G i) (h2 : KE (LV (heapL G)) env E) : KeepK m0 G env H E := ⟨h1, h2⟩
attribute [local irreducible] pwOps dr pwCode Ex.then Ex.inBlock retQ okAll drawOk Pure CSat evOp calleeP rdOf upd hset strip sp0 cut envL heapL Again Keep BdL evBs AgainK KeepK
def cmpZ (x y : Int) : Int := if decide (x < y) = true then -1 else if decide (x > y) = true then 1 else 0
theorem cmp_nan (x : Int) : Pure Try.prog 177 [.int .u64 x] (.bool false) := by
  refine pureI (by kernel_rfl) (by simp only [go_sem, *]) (by simp only [go_sem, *]) Try.func177 Try.results177 rfl (by simp [Try.ntmps177]) (by kernel_rfl) ?_
  repeat' (first
    | (show pwOps ..; first | refine pops_nil ?_ | refine pops_n rfl ?_ | refine pops_w' rfl rfl ?_)
    | (show runGo ..; first | refine run_ev rfl rfl ?_ | refine run_call rfl ?_)
    | (show goOn ..; first | refine on_nop ?_ | refine on_new ?_ | refine on_put ?_ | refine on_born ?_ | refine on_grow ?_)
    | (show putGo ..; refine put_box ?_)
    | (show wGo ..; first | refine gw_tt ?_ | refine gw_ff ?_ | refine gw_tf ?_ | refine gw_ft ?_ | refine gw_u ?_ | refine gw_tn (fun _ => ?_) (fun _ => ?_) | refine gw_fn (fun _ => ?_) (fun _ => ?_) | refine gw_tb (fun _ => ?_) (fun _ => ?_) | refine gw_fb (fun _ => ?_) (fun _ => ?_))
    | (show dr ..; first | refine dr_nil ?_ | refine dr_n rfl ?_ | refine dr_w' rfl rfl ?_)
    | (show drGo ..; first | refine dr_ev rfl ?_ | refine dr_call rfl ?_)
    | (show drOn ..; first | refine dn_nop ?_ | refine dn_new ?_ | refine dn_put ?_ | refine dn_born ?_ | refine dn_grow ?_)
    | (show dputGo ..; refine dput_box ?_)
    | (refine And.intro (by kernel_rfl : okAll _ = true) ?_)
    | (show pwCode ..; first | refine pc_seq ?_ | refine pc_region ?_ | refine pc_draw (by kernel_rfl) ?_ | refine pc_ret ?_ | refine pc_skip ?_ | refine pc_block ?_ | refine pc_exit ?_ | refine pc_cond ?_)
    | (show condGo ..; first | refine cd_t ?_ | refine cd_f ?_ | refine cd_n (fun _ => ?_) (fun _ => ?_) | refine cd_b (fun _ => ?_) (fun _ => ?_))
    | refine th_normal ?_
    | refine th_ret ?_
    | refine th_exit ?_
    | refine th_pan ?_
    | refine bl_normal ?_
    | refine bl_exit ?_
    | refine bl_pass rfl ?_
    | refine bl_ret ?_
    | refine bl_pan ?_
    | (show retQ ..; first | refine rt_ret ?_ | refine rt_normal ?_)
    | refine rs_some ?_)
  all_goals rfl
theorem cmp_u (x y : Int) : Pure Try.prog 181 [.int .u64 x, .int .u64 y] (.int .i64 (cmpZ x y)) := by
  refine pureI (by kernel_rfl) (by simp only [go_sem, *]) (by simp only [go_sem, *]) Try.func181 Try.results181 rfl (by simp [Try.ntmps181]) (by kernel_rfl) ?_
  repeat' (first
    | (show pwOps ..; first | refine pops_nil ?_ | refine pops_n rfl ?_ | refine pops_w' rfl rfl ?_)
    | (show runGo ..; first | refine run_ev rfl rfl ?_ | refine run_call rfl ?_)
    | (show goOn ..; first | refine on_nop ?_ | refine on_new ?_ | refine on_put ?_ | refine on_born ?_ | refine on_grow ?_)
    | (show putGo ..; refine put_box ?_)
    | (show callGo ..; (refine call_pure (r := ?_) ?_ ?_; rotate_left 1; (focus first | exact cmp_nan _)))
    | (show wGo ..; first | refine gw_tt ?_ | refine gw_ff ?_ | refine gw_tf ?_ | refine gw_ft ?_ | refine gw_u ?_ | refine gw_tn (fun _ => ?_) (fun _ => ?_) | refine gw_fn (fun _ => ?_) (fun _ => ?_) | refine gw_tb (fun _ => ?_) (fun _ => ?_) | refine gw_fb (fun _ => ?_) (fun _ => ?_))
    | (show dr ..; first | refine dr_nil ?_ | refine dr_n rfl ?_ | refine dr_w' rfl rfl ?_)
    | (show drGo ..; first | refine dr_ev rfl ?_ | refine dr_call rfl ?_)
    | (show drOn ..; first | refine dn_nop ?_ | refine dn_new ?_ | refine dn_put ?_ | refine dn_born ?_ | refine dn_grow ?_)
    | (show dputGo ..; refine dput_box ?_)
    | (show dcallGo ..; (refine dcall_pure (r := ?_) ?_ ?_; rotate_left 1; (focus first | exact cmp_nan _)))
    | (refine And.intro (by kernel_rfl : okAll _ = true) ?_)
    | (show pwCode ..; first | refine pc_seq ?_ | refine pc_region ?_ | refine pc_draw (by kernel_rfl) ?_ | refine pc_ret ?_ | refine pc_skip ?_ | refine pc_block ?_ | refine pc_exit ?_ | refine pc_cond ?_)
    | (show condGo ..; first | refine cd_t ?_ | refine cd_f ?_ | refine cd_n (fun _ => ?_) (fun _ => ?_) | refine cd_b (fun _ => ?_) (fun _ => ?_))
    | refine th_normal ?_
    | refine th_ret ?_
    | refine th_exit ?_
    | refine th_pan ?_
    | refine bl_normal ?_
    | refine bl_exit ?_
    | refine bl_pass rfl ?_
    | refine bl_ret ?_
    | refine bl_pan ?_
    | (show retQ ..; first | refine rt_ret ?_ | refine rt_normal ?_)
    | refine rs_some ?_)
  all_goals (unfold cmpZ; simp only [*, if_true, if_false, Bool.false_eq_true]; try rfl)
theorem at1_ob (l : List Ob) (x : Ob) (id : Int) : CSat Try.prog 180 [.agg (Ob.enc x), .int .u64 id, .ptr 0 0] (heapL (lsG l)) 1 (fun out H' m' => out = .ret (.int .i64 (cmpZ x.id id)) ∧ 1 ≤ m' ∧ ∀ i, i < 1 → H' i = heapL (lsG l) i) := by
  refine csatI (by kernel_rfl) Try.func180 Try.results180 rfl (by simp [Try.ntmps180]) (by kernel_rfl) ?_
  unfold lsG
  repeat' (first
    | (show pwOps ..; first | refine pops_nil ?_ | refine pops_n rfl ?_ | refine pops_w' rfl rfl ?_)
    | (show runGo ..; first | refine run_ev rfl rfl ?_ | refine run_call rfl ?_)
    | (show goOn ..; first | refine on_nop ?_ | refine on_new ?_ | refine on_put ?_ | refine on_born ?_ | refine on_grow ?_)
    | (show putGo ..; refine put_box ?_)
    | (show callGo ..; (refine call_pure (r := ?_) ?_ ?_; rotate_left 1; (focus first | exact obj_idOf _ | exact cmp_u _ _)))
    | (show wGo ..; first | refine gw_tt ?_ | refine gw_ff ?_ | refine gw_tf ?_ | refine gw_ft ?_ | refine gw_u ?_ | refine gw_tn (fun _ => ?_) (fun _ => ?_) | refine gw_fn (fun _ => ?_) (fun _ => ?_) | refine gw_tb (fun _ => ?_) (fun _ => ?_) | refine gw_fb (fun _ => ?_) (fun _ => ?_))
    | (show dr ..; first | refine dr_nil ?_ | refine dr_n rfl ?_ | refine dr_w' rfl rfl ?_)
    | (show drGo ..; first | refine dr_ev rfl ?_ | refine dr_call rfl ?_)
    | (show drOn ..; first | refine dn_nop ?_ | refine dn_new ?_ | refine dn_put ?_ | refine dn_born ?_ | refine dn_grow ?_)
    | (show dputGo ..; refine dput_box ?_)
    | (show dcallGo ..; (refine dcall_pure (r := ?_) ?_ ?_; rotate_left 1; (focus first | exact obj_idOf _ | exact cmp_u _ _)))
    | (refine And.intro (by kernel_rfl : okAll _ = true) ?_)
    | (show pwCode ..; first | refine pc_seq ?_ | refine pc_region ?_ | refine pc_draw (by kernel_rfl) ?_ | refine pc_ret ?_ | refine pc_skip ?_ | refine pc_block ?_ | refine pc_exit ?_ | refine pc_cond ?_)
    | (show condGo ..; first | refine cd_t ?_ | refine cd_f ?_ | refine cd_n (fun _ => ?_) (fun _ => ?_) | refine cd_b (fun _ => ?_) (fun _ => ?_))
    | refine th_normal ?_
    | refine th_ret ?_
    | refine th_exit ?_
    | refine th_pan ?_
    | refine bl_normal ?_
    | refine bl_exit ?_
    | refine bl_pass rfl ?_
    | refine bl_ret ?_
    | refine bl_pan ?_
    | (show retQ ..; first | refine rt_ret ?_ | refine rt_normal ?_)
    | refine rs_some ?_)
  refine ⟨rfl, by omega, fun i hi => ?_⟩
  obtain rfl : i = 0 := by omega
  exact hset_ne _ _ (by decide)
def RisO (l : List Ob) : Prop := ∀ (i j : Nat) (x y : Ob), l[i]? = some x → l[j]? = some y → i < j → x.id < y.id
def posO (l : List Ob) (id : Int) : Nat := (l.takeWhile (fun x => decide (x.id < id))).length
def hitO (l : List Ob) (id : Int) : Bool := match l[posO l id]? with
  | some x => x.id == id
  | none => false
theorem pos_spot {l : List Ob} {id : Int} {n : Nat} (hn : n ≤ l.length) (h1 : ∀ k, k < n → ∀ x, l[k]? = some x → x.id < id) (h2 : ∀ x, l[n]? = some x → ¬ x.id < id) : posO l id = n := by
  unfold posO
  induction l generalizing n with
  | nil => simp at hn; subst hn; rfl
  | cons a l ih =>
    cases n with
    | zero =>
      have := h2 a rfl
      rw [List.takeWhile_cons, if_neg (by simpa using this)]; rfl
    | succ n =>
      have := h1 0 (by omega) a rfl
      rw [List.takeWhile_cons, if_pos (by simpa using this), List.length_cons, ih (by simpa using hn) (fun k hk x hx => h1 (k + 1) (by omega) x (by simpa using hx)) (fun x hx => h2 x (by simpa using hx))]
theorem cmpZ_lt (x y : Int) : decide (cmpZ x y < 0) = decide (x < y) := by
  unfold cmpZ
  by_cases h : x < y
  · rw [if_pos (decide_eq_true h), decide_eq_true h]; rfl
  · rw [if_neg (by simpa using h), decide_eq_false h]; split <;> rfl
theorem cmpZ_eq (x y : Int) : (cmpZ x y == 0) = (x == y) := by
  unfold cmpZ
  by_cases h : x < y
  · rw [if_pos (decide_eq_true h)]; have : (x == y) = false := by simpa using (by omega : x ≠ y)
    rw [this]; rfl
  · rw [if_neg (by simpa using h)]
    by_cases h2 : x > y
    · rw [if_pos (decide_eq_true h2)]; have : (x == y) = false := by simpa using (by omega : x ≠ y)
      rw [this]; rfl
    · rw [if_neg (by simpa using h2)]; have : (x == y) = true := by simpa using (by omega : x = y)
      rw [this]; rfl
theorem search_ob (l : List Ob) (id : Int) (hl : l.length ≤ 1000000) (hs : RisO l) : CSat Try.prog 179 [.sl (l.map Ob.enc), .int .u64 id, .fn (.func 180) [] [.ptr 0 0]] (heapL (lsG l)) 1
    (fun out _ _ => out = .ret (.tup [.int .i64 (posO l id), .bool (hitO l id)])) := by
  refine csatI (by kernel_rfl) Try.func179 Try.results179 rfl (by simp [Try.ntmps179]) (by kernel_rfl) ?_
  repeat' (first
    | (show pwOps ..; first | refine pops_nil ?_ | refine pops_n rfl ?_ | refine pops_w' rfl rfl ?_)
    | (show runGo ..; first | refine run_ev rfl rfl ?_ | refine run_call rfl ?_)
    | (show goOn ..; first | refine on_nop ?_ | refine on_new ?_ | refine on_put ?_ | refine on_born ?_ | refine on_grow ?_)
    | (show putGo ..; refine put_box ?_)
    | (show wGo ..; first | refine gw_tt ?_ | refine gw_ff ?_ | refine gw_tf ?_ | refine gw_ft ?_ | refine gw_u ?_ | refine gw_tn (fun _ => ?_) (fun _ => ?_) | refine gw_fn (fun _ => ?_) (fun _ => ?_) | refine gw_tb (fun _ => ?_) (fun _ => ?_) | refine gw_fb (fun _ => ?_) (fun _ => ?_))
    | (show dr ..; first | refine dr_nil ?_ | refine dr_n rfl ?_ | refine dr_w' rfl rfl ?_)
    | (show drGo ..; first | refine dr_ev rfl ?_ | refine dr_call rfl ?_)
    | (show drOn ..; first | refine dn_nop ?_ | refine dn_new ?_ | refine dn_put ?_ | refine dn_born ?_ | refine dn_grow ?_)
    | (show dputGo ..; refine dput_box ?_)
    | (refine And.intro (by kernel_rfl : okAll _ = true) ?_)
    | (show pwCode ..; first | refine pc_seq ?_ | refine pc_region ?_ | refine pc_draw (by kernel_rfl) ?_ | refine pc_ret ?_ | refine pc_skip ?_ | refine pc_block ?_ | refine pc_exit ?_ | refine pc_cond ?_)
    | (show condGo ..; first | refine cd_t ?_ | refine cd_f ?_ | refine cd_n (fun _ => ?_) (fun _ => ?_) | refine cd_b (fun _ => ?_) (fun _ => ?_))
    | refine th_normal ?_
    | refine th_ret ?_
    | refine th_exit ?_
    | refine th_pan ?_
    | refine bl_normal ?_
    | refine bl_exit ?_
    | refine bl_pass rfl ?_
    | refine bl_ret ?_
    | refine bl_pan ?_
    | (show retQ ..; first | refine rt_ret ?_ | refine rt_normal ?_)
    | refine rs_some ?_)
  have hLV := lsG_lv l
  refine pc_loopK (S := Nat × Nat) (lsG l) (lsG_1 l) (lsG_2 l) (lsG_3 l) (fun s => s.2 - s.1) (fun s => s.1 ≤ s.2 ∧ s.2 ≤ l.length ∧ (∀ k, k < s.1 → ∀ x, l[k]? = some x → x.id < id) ∧ (∀ k, s.2 ≤ k → ∀ x, l[k]? = some x → ¬ x.id < id)) (fun s => [(0, .sl (l.map Ob.enc)), (1, .int .u64 id), (2, .fn (.func 180) [] [.ptr 0 0]), (8, .int .i64 l.length), (9, .int .i64 s.1), (10, .int .i64 s.2)]) (0, l.length) ⟨Nat.zero_le _, Nat.le_refl _, fun k hk => absurd hk (Nat.not_lt_zero k), fun k hk x hx => absurd (len_lt hx) (by simp only at hk; omega)⟩ (Nat.le_refl _) (keepK_i (fun i _ => rfl) (by (repeat' (first | exact ke_nil | refine ke_cons (by (try simp only [go_sem, *]); try rfl) (by simp only [go_sem, *]) ?_)))) ?_
  rintro ⟨i, j⟩ ⟨hij, hj, h1, h2⟩
  simp only at hij hj h1 h2
  rcases Nat.lt_or_ge i j with hlt | hge
  · obtain ⟨x, hx⟩ := lt_len (by omega : (i + j) / 2 < l.length)
    have h0 := lt_true hlt
    have e1 : IntKind.i64.wrap ((i : Int) + (j : Int)) = ((i + j : Nat) : Int) := by rw [IntKind.wrap_i64]; omega
    have e2 : IntKind.u64.wrap ((i + j : Nat) : Int) = ((i + j : Nat) : Int) := by rw [IntKind.wrap_u64]; omega
    have e3 : IntKind.i64.wrap (((i + j) / 2 : Nat) : Int) = (((i + j) / 2 : Nat) : Int) := by rw [IntKind.wrap_i64]; omega
    have e4 := wrap_nat ((i + j) / 2) (by omega)
    repeat' (first
    | (show pwOps ..; first | refine pops_nil ?_ | refine pops_n rfl ?_ | refine pops_w' rfl rfl ?_)
    | (show runGo ..; first | refine run_ev rfl rfl ?_ | refine run_call rfl ?_)
    | (show goOn ..; first | refine on_nop ?_ | refine on_new ?_ | refine on_put ?_ | refine on_born ?_ | refine on_grow ?_)
    | (show putGo ..; refine put_box ?_)
    | (show wGo ..; first | refine gw_tt ?_ | refine gw_ff ?_ | refine gw_tf ?_ | refine gw_ft ?_ | refine gw_u ?_ | refine gw_tn (fun _ => ?_) (fun _ => ?_) | refine gw_fn (fun _ => ?_) (fun _ => ?_) | refine gw_tb (fun _ => ?_) (fun _ => ?_) | refine gw_fb (fun _ => ?_) (fun _ => ?_))
    | (show dr ..; first | refine dr_nil ?_ | refine dr_n rfl ?_ | refine dr_w' rfl rfl ?_)
    | (show drGo ..; first | refine dr_ev rfl ?_ | refine dr_call rfl ?_)
    | (show drOn ..; first | refine dn_nop ?_ | refine dn_new ?_ | refine dn_put ?_ | refine dn_born ?_ | refine dn_grow ?_)
    | (show dputGo ..; refine dput_box ?_)
    | (refine And.intro (by kernel_rfl : okAll _ = true) ?_)
    | (show pwCode ..; first | refine pc_seq ?_ | refine pc_region ?_ | refine pc_draw (by kernel_rfl) ?_ | refine pc_ret ?_ | refine pc_skip ?_ | refine pc_block ?_ | refine pc_exit ?_ | refine pc_cond ?_)
    | (show condGo ..; first | refine cd_t ?_ | refine cd_f ?_ | refine cd_n (fun _ => ?_) (fun _ => ?_) | refine cd_b (fun _ => ?_) (fun _ => ?_))
    | refine th_normal ?_
    | refine th_ret ?_
    | refine th_exit ?_
    | refine th_pan ?_
    | refine bl_normal ?_
    | refine bl_exit ?_
    | refine bl_pass rfl ?_
    | refine bl_ret ?_
    | refine bl_pan ?_
    | (show retQ ..; first | refine rt_ret ?_ | refine rt_normal ?_)
    | refine rs_some ?_)
    (refine call_csat (by kernel_rfl) (at1_ob l x id) ?_ ?_)
    case refine_2 => rintro p H' m' ⟨h, _⟩; cases h
    rintro r H' m' ⟨h, hm', hH'⟩
    cases h
    have e5 := cmpZ_lt x.id id
    repeat' (first
    | (show pwOps ..; first | refine pops_nil ?_ | refine pops_n rfl ?_ | refine pops_w' rfl rfl ?_)
    | (show runGo ..; first | refine run_ev rfl rfl ?_ | refine run_call rfl ?_)
    | (show goOn ..; first | refine on_nop ?_ | refine on_new ?_ | refine on_put ?_ | refine on_born ?_ | refine on_grow ?_)
    | (show putGo ..; refine put_box ?_)
    | (show wGo ..; first | refine gw_tt ?_ | refine gw_ff ?_ | refine gw_tf ?_ | refine gw_ft ?_ | refine gw_u ?_ | refine gw_tn (fun _ => ?_) (fun _ => ?_) | refine gw_fn (fun _ => ?_) (fun _ => ?_) | refine gw_tb (fun _ => ?_) (fun _ => ?_) | refine gw_fb (fun _ => ?_) (fun _ => ?_))
    | (show dr ..; first | refine dr_nil ?_ | refine dr_n rfl ?_ | refine dr_w' rfl rfl ?_)
    | (show drGo ..; first | refine dr_ev rfl ?_ | refine dr_call rfl ?_)
    | (show drOn ..; first | refine dn_nop ?_ | refine dn_new ?_ | refine dn_put ?_ | refine dn_born ?_ | refine dn_grow ?_)
    | (show dputGo ..; refine dput_box ?_)
    | (refine And.intro (by kernel_rfl : okAll _ = true) ?_)
    | (show pwCode ..; first | refine pc_seq ?_ | refine pc_region ?_ | refine pc_draw (by kernel_rfl) ?_ | refine pc_ret ?_ | refine pc_skip ?_ | refine pc_block ?_ | refine pc_exit ?_ | refine pc_cond ?_)
    | (show condGo ..; first | refine cd_t ?_ | refine cd_f ?_ | refine cd_n (fun _ => ?_) (fun _ => ?_) | refine cd_b (fun _ => ?_) (fun _ => ?_))
    | refine th_normal ?_
    | refine th_ret ?_
    | refine th_exit ?_
    | refine th_pan ?_
    | refine bl_normal ?_
    | refine bl_exit ?_
    | refine bl_pass rfl ?_
    | refine bl_ret ?_
    | refine bl_pan ?_
    | (show retQ ..; first | refine rt_ret ?_ | refine rt_normal ?_)
    | refine rs_some ?_)
    all_goals rename_i hc
    · refine againK ((i + j) / 2 + 1, j) ⟨by simp only; omega, hj, fun k hk y hy => ?_, h2⟩ (by simp only; omega) hm' hH' (by (repeat' (first | exact ke_nil | refine ke_cons (by (try simp only [go_sem, *]); try rfl) (by simp only [go_sem, *]) ?_)))
      simp only at hk
      rcases Nat.lt_or_ge k ((i + j) / 2) with h | h
      · have := hs k _ y x hy hx h; have := of_decide_eq_true hc; omega
      · obtain rfl : k = (i + j) / 2 := by omega
        rw [hx] at hy; cases hy; exact of_decide_eq_true hc
    · refine againK (i, (i + j) / 2) ⟨by simp only; omega, by simp only; omega, h1, fun k hk y hy => ?_⟩ (by simp only; omega) hm' hH' (by (repeat' (first | exact ke_nil | refine ke_cons (by (try simp only [go_sem, *]); try rfl) (by simp only [go_sem, *]) ?_)))
      simp only at hk
      have hc' := of_decide_eq_false hc
      rcases Nat.lt_or_ge ((i + j) / 2) k with h | h
      · have := hs _ k x y hx hy h; omega
      · obtain rfl : k = (i + j) / 2 := by omega
        rw [hx] at hy; cases hy; exact hc'
  · obtain rfl : i = j := by omega
    have h0 := lt_false hge
    have hp := pos_spot hj h1 (h2 i (Nat.le_refl _))
    rcases Nat.lt_or_ge i l.length with hlt | hge2
    · obtain ⟨x, hx⟩ := lt_len hlt
      have h3 := lt_true hlt
      have hh : hitO l id = (x.id == id) := by unfold hitO; rw [hp, hx]
      repeat' (first
    | (show pwOps ..; first | refine pops_nil ?_ | refine pops_n rfl ?_ | refine pops_w' rfl rfl ?_)
    | (show runGo ..; first | refine run_ev rfl rfl ?_ | refine run_call rfl ?_)
    | (show goOn ..; first | refine on_nop ?_ | refine on_new ?_ | refine on_put ?_ | refine on_born ?_ | refine on_grow ?_)
    | (show putGo ..; refine put_box ?_)
    | (show wGo ..; first | refine gw_tt ?_ | refine gw_ff ?_ | refine gw_tf ?_ | refine gw_ft ?_ | refine gw_u ?_ | refine gw_tn (fun _ => ?_) (fun _ => ?_) | refine gw_fn (fun _ => ?_) (fun _ => ?_) | refine gw_tb (fun _ => ?_) (fun _ => ?_) | refine gw_fb (fun _ => ?_) (fun _ => ?_))
    | (show dr ..; first | refine dr_nil ?_ | refine dr_n rfl ?_ | refine dr_w' rfl rfl ?_)
    | (show drGo ..; first | refine dr_ev rfl ?_ | refine dr_call rfl ?_)
    | (show drOn ..; first | refine dn_nop ?_ | refine dn_new ?_ | refine dn_put ?_ | refine dn_born ?_ | refine dn_grow ?_)
    | (show dputGo ..; refine dput_box ?_)
    | (refine And.intro (by kernel_rfl : okAll _ = true) ?_)
    | (show pwCode ..; first | refine pc_seq ?_ | refine pc_region ?_ | refine pc_draw (by kernel_rfl) ?_ | refine pc_ret ?_ | refine pc_skip ?_ | refine pc_block ?_ | refine pc_exit ?_ | refine pc_cond ?_)
    | (show condGo ..; first | refine cd_t ?_ | refine cd_f ?_ | refine cd_n (fun _ => ?_) (fun _ => ?_) | refine cd_b (fun _ => ?_) (fun _ => ?_))
    | refine th_normal ?_
    | refine th_ret ?_
    | refine th_exit ?_
    | refine th_pan ?_
    | refine bl_normal ?_
    | refine bl_exit ?_
    | refine bl_pass rfl ?_
    | refine bl_ret ?_
    | refine bl_pan ?_
    | (show retQ ..; first | refine rt_ret ?_ | refine rt_normal ?_)
    | refine rs_some ?_)
      (refine call_csat (by kernel_rfl) (at1_ob l x id) ?_ ?_)
      case refine_2 => rintro p H' m' ⟨h, _⟩; cases h
      rintro r H' m' ⟨h, hm', hH'⟩
      cases h
      have e5 := cmpZ_eq x.id id
      repeat' (first
    | (show pwOps ..; first | refine pops_nil ?_ | refine pops_n rfl ?_ | refine pops_w' rfl rfl ?_)
    | (show runGo ..; first | refine run_ev rfl rfl ?_ | refine run_call rfl ?_)
    | (show goOn ..; first | refine on_nop ?_ | refine on_new ?_ | refine on_put ?_ | refine on_born ?_ | refine on_grow ?_)
    | (show putGo ..; refine put_box ?_)
    | (show wGo ..; first | refine gw_tt ?_ | refine gw_ff ?_ | refine gw_tf ?_ | refine gw_ft ?_ | refine gw_u ?_ | refine gw_tn (fun _ => ?_) (fun _ => ?_) | refine gw_fn (fun _ => ?_) (fun _ => ?_) | refine gw_tb (fun _ => ?_) (fun _ => ?_) | refine gw_fb (fun _ => ?_) (fun _ => ?_))
    | (show dr ..; first | refine dr_nil ?_ | refine dr_n rfl ?_ | refine dr_w' rfl rfl ?_)
    | (show drGo ..; first | refine dr_ev rfl ?_ | refine dr_call rfl ?_)
    | (show drOn ..; first | refine dn_nop ?_ | refine dn_new ?_ | refine dn_put ?_ | refine dn_born ?_ | refine dn_grow ?_)
    | (show dputGo ..; refine dput_box ?_)
    | (refine And.intro (by kernel_rfl : okAll _ = true) ?_)
    | (show pwCode ..; first | refine pc_seq ?_ | refine pc_region ?_ | refine pc_draw (by kernel_rfl) ?_ | refine pc_ret ?_ | refine pc_skip ?_ | refine pc_block ?_ | refine pc_exit ?_ | refine pc_cond ?_)
    | (show condGo ..; first | refine cd_t ?_ | refine cd_f ?_ | refine cd_n (fun _ => ?_) (fun _ => ?_) | refine cd_b (fun _ => ?_) (fun _ => ?_))
    | refine th_normal ?_
    | refine th_ret ?_
    | refine th_exit ?_
    | refine th_pan ?_
    | refine bl_normal ?_
    | refine bl_exit ?_
    | refine bl_pass rfl ?_
    | refine bl_ret ?_
    | refine bl_pan ?_
    | (show retQ ..; first | refine rt_ret ?_ | refine rt_normal ?_)
    | refine rs_some ?_)
      all_goals (rw [hp, hh])
    · have h3 := lt_false hge2
      have hh : hitO l id = false := by unfold hitO; rw [hp, List.getElem?_eq_none hge2]
      repeat' (first
    | (show pwOps ..; first | refine pops_nil ?_ | refine pops_n rfl ?_ | refine pops_w' rfl rfl ?_)
    | (show runGo ..; first | refine run_ev rfl rfl ?_ | refine run_call rfl ?_)
    | (show goOn ..; first | refine on_nop ?_ | refine on_new ?_ | refine on_put ?_ | refine on_born ?_ | refine on_grow ?_)
    | (show putGo ..; refine put_box ?_)
    | (show wGo ..; first | refine gw_tt ?_ | refine gw_ff ?_ | refine gw_tf ?_ | refine gw_ft ?_ | refine gw_u ?_ | refine gw_tn (fun _ => ?_) (fun _ => ?_) | refine gw_fn (fun _ => ?_) (fun _ => ?_) | refine gw_tb (fun _ => ?_) (fun _ => ?_) | refine gw_fb (fun _ => ?_) (fun _ => ?_))
    | (show dr ..; first | refine dr_nil ?_ | refine dr_n rfl ?_ | refine dr_w' rfl rfl ?_)
    | (show drGo ..; first | refine dr_ev rfl ?_ | refine dr_call rfl ?_)
    | (show drOn ..; first | refine dn_nop ?_ | refine dn_new ?_ | refine dn_put ?_ | refine dn_born ?_ | refine dn_grow ?_)
    | (show dputGo ..; refine dput_box ?_)
    | (refine And.intro (by kernel_rfl : okAll _ = true) ?_)
    | (show pwCode ..; first | refine pc_seq ?_ | refine pc_region ?_ | refine pc_draw (by kernel_rfl) ?_ | refine pc_ret ?_ | refine pc_skip ?_ | refine pc_block ?_ | refine pc_exit ?_ | refine pc_cond ?_)
    | (show condGo ..; first | refine cd_t ?_ | refine cd_f ?_ | refine cd_n (fun _ => ?_) (fun _ => ?_) | refine cd_b (fun _ => ?_) (fun _ => ?_))
    | refine th_normal ?_
    | refine th_ret ?_
    | refine th_exit ?_
    | refine th_pan ?_
    | refine bl_normal ?_
    | refine bl_exit ?_
    | refine bl_pass rfl ?_
    | refine bl_ret ?_
    | refine bl_pan ?_
    | (show retQ ..; first | refine rt_ret ?_ | refine rt_normal ?_)
    | refine rs_some ?_)
      all_goals (rw [hp, hh])
end Go.Proofs.Ytggkjfllbfcagaa
end

section
namespace Go.Proofs.Ytggkjfllbfcagaa
open Go Go.RowKit
set_option linter.unusedVariables false
set_option linter.unusedSimpArgs false
set_option maxHeartbeats 16000000
set_option maxRecDepth 100000
attribute [go_sem] hset_same
attribute [local irreducible] pwOps dr pwCode Ex.then Ex.inBlock retQ okAll drawOk Pure CSat evOp calleeP rdOf upd hset strip sp0 cut envL heapL Again Keep BdL evBs AgainK KeepK
@[go_sem] theorem lsO_bd (S : Nat → Prop) (l : List Ob) : BdL S (Ls.enc (LsO l)) = True := eq_true (lsG_bd S l)
theorem obj_at (l : List Ob) (id : Int) (hl : l.length ≤ 1000000) (hs : RisO l) : Pure Try.prog 154 [.agg (Ls.enc (LsO l)), .int .u64 id] (.tup [.int .i64 (posO l id), .bool (hitO l id)]) := by
  refine pureI (by kernel_rfl) (by simp only [go_sem, *]) (by simp only [go_sem, *]) Try.func154 Try.results154 rfl (by simp [Try.ntmps154]) (by kernel_rfl) ?_
  have h := search_ob l id hl hs
  unfold lsG at h
  rw [← hset_heapL] at h
  repeat' (first
    | (show pwOps ..; first | refine pops_nil ?_ | refine pops_n rfl ?_ | refine pops_w' rfl rfl ?_)
    | (show runGo ..; first | refine run_ev rfl rfl ?_ | refine run_call rfl ?_)
    | (show goOn ..; first | refine on_nop ?_ | refine on_new ?_ | refine on_put ?_ | refine on_born ?_ | refine on_grow ?_)
    | (show putGo ..; refine put_box ?_)
    | (show wGo ..; first | refine gw_tt ?_ | refine gw_ff ?_ | refine gw_tf ?_ | refine gw_ft ?_ | refine gw_u ?_ | refine gw_tn (fun _ => ?_) (fun _ => ?_) | refine gw_fn (fun _ => ?_) (fun _ => ?_) | refine gw_tb (fun _ => ?_) (fun _ => ?_) | refine gw_fb (fun _ => ?_) (fun _ => ?_))
    | (show dr ..; first | refine dr_nil ?_ | refine dr_n rfl ?_ | refine dr_w' rfl rfl ?_)
    | (show drGo ..; first | refine dr_ev rfl ?_ | refine dr_call rfl ?_)
    | (show drOn ..; first | refine dn_nop ?_ | refine dn_new ?_ | refine dn_put ?_ | refine dn_born ?_ | refine dn_grow ?_)
    | (show dputGo ..; refine dput_box ?_)
    | (refine And.intro (by kernel_rfl : okAll _ = true) ?_)
    | (show pwCode ..; first | refine pc_seq ?_ | refine pc_region ?_ | refine pc_draw (by kernel_rfl) ?_ | refine pc_ret ?_ | refine pc_skip ?_ | refine pc_block ?_ | refine pc_exit ?_ | refine pc_cond ?_)
    | (show condGo ..; first | refine cd_t ?_ | refine cd_f ?_ | refine cd_n (fun _ => ?_) (fun _ => ?_) | refine cd_b (fun _ => ?_) (fun _ => ?_))
    | refine th_normal ?_
    | refine th_ret ?_
    | refine th_exit ?_
    | refine th_pan ?_
    | refine bl_normal ?_
    | refine bl_exit ?_
    | refine bl_pass rfl ?_
    | refine bl_ret ?_
    | refine bl_pan ?_
    | (show retQ ..; first | refine rt_ret ?_ | refine rt_normal ?_)
    | refine rs_some ?_)
  (refine call_csat (by kernel_rfl) (h) ?_ ?_)
  case refine_2 => rintro p H' m' h; cases h
  rintro r H' m' h
  cases h
  repeat' (first
    | (show pwOps ..; first | refine pops_nil ?_ | refine pops_n rfl ?_ | refine pops_w' rfl rfl ?_)
    | (show runGo ..; first | refine run_ev rfl rfl ?_ | refine run_call rfl ?_)
    | (show goOn ..; first | refine on_nop ?_ | refine on_new ?_ | refine on_put ?_ | refine on_born ?_ | refine on_grow ?_)
    | (show putGo ..; refine put_box ?_)
    | (show wGo ..; first | refine gw_tt ?_ | refine gw_ff ?_ | refine gw_tf ?_ | refine gw_ft ?_ | refine gw_u ?_ | refine gw_tn (fun _ => ?_) (fun _ => ?_) | refine gw_fn (fun _ => ?_) (fun _ => ?_) | refine gw_tb (fun _ => ?_) (fun _ => ?_) | refine gw_fb (fun _ => ?_) (fun _ => ?_))
    | (show dr ..; first | refine dr_nil ?_ | refine dr_n rfl ?_ | refine dr_w' rfl rfl ?_)
    | (show drGo ..; first | refine dr_ev rfl ?_ | refine dr_call rfl ?_)
    | (show drOn ..; first | refine dn_nop ?_ | refine dn_new ?_ | refine dn_put ?_ | refine dn_born ?_ | refine dn_grow ?_)
    | (show dputGo ..; refine dput_box ?_)
    | (refine And.intro (by kernel_rfl : okAll _ = true) ?_)
    | (show pwCode ..; first | refine pc_seq ?_ | refine pc_region ?_ | refine pc_draw (by kernel_rfl) ?_ | refine pc_ret ?_ | refine pc_skip ?_ | refine pc_block ?_ | refine pc_exit ?_ | refine pc_cond ?_)
    | (show condGo ..; first | refine cd_t ?_ | refine cd_f ?_ | refine cd_n (fun _ => ?_) (fun _ => ?_) | refine cd_b (fun _ => ?_) (fun _ => ?_))
    | refine th_normal ?_
    | refine th_ret ?_
    | refine th_exit ?_
    | refine th_pan ?_
    | refine bl_normal ?_
    | refine bl_exit ?_
    | refine bl_pass rfl ?_
    | refine bl_ret ?_
    | refine bl_pan ?_
    | (show retQ ..; first | refine rt_ret ?_ | refine rt_normal ?_)
    | refine rs_some ?_)
  all_goals rfl
theorem obj_objects (w : Wd) : Pure Try.prog 153 [.agg (Wd.enc w)] (.agg (Ls.enc (LsO w.objects))) := by
  refine pureI (by kernel_rfl) (by simp only [go_sem, *]) (by simp only [go_sem, *]) Try.func153 Try.results153 rfl (by simp [Try.ntmps153]) (by kernel_rfl) ?_
  repeat' (first
    | (show pwOps ..; first | refine pops_nil ?_ | refine pops_n rfl ?_ | refine pops_w' rfl rfl ?_)
    | (show runGo ..; first | refine run_ev rfl rfl ?_ | refine run_call rfl ?_)
    | (show goOn ..; first | refine on_nop ?_ | refine on_new ?_ | refine on_put ?_ | refine on_born ?_ | refine on_grow ?_)
    | (show putGo ..; refine put_box ?_)
    | (show wGo ..; first | refine gw_tt ?_ | refine gw_ff ?_ | refine gw_tf ?_ | refine gw_ft ?_ | refine gw_u ?_ | refine gw_tn (fun _ => ?_) (fun _ => ?_) | refine gw_fn (fun _ => ?_) (fun _ => ?_) | refine gw_tb (fun _ => ?_) (fun _ => ?_) | refine gw_fb (fun _ => ?_) (fun _ => ?_))
    | (show dr ..; first | refine dr_nil ?_ | refine dr_n rfl ?_ | refine dr_w' rfl rfl ?_)
    | (show drGo ..; first | refine dr_ev rfl ?_ | refine dr_call rfl ?_)
    | (show drOn ..; first | refine dn_nop ?_ | refine dn_new ?_ | refine dn_put ?_ | refine dn_born ?_ | refine dn_grow ?_)
    | (show dputGo ..; refine dput_box ?_)
    | (refine And.intro (by kernel_rfl : okAll _ = true) ?_)
    | (show pwCode ..; first | refine pc_seq ?_ | refine pc_region ?_ | refine pc_draw (by kernel_rfl) ?_ | refine pc_ret ?_ | refine pc_skip ?_ | refine pc_block ?_ | refine pc_exit ?_ | refine pc_cond ?_)
    | (show condGo ..; first | refine cd_t ?_ | refine cd_f ?_ | refine cd_n (fun _ => ?_) (fun _ => ?_) | refine cd_b (fun _ => ?_) (fun _ => ?_))
    | refine th_normal ?_
    | refine th_ret ?_
    | refine th_exit ?_
    | refine th_pan ?_
    | refine bl_normal ?_
    | refine bl_exit ?_
    | refine bl_pass rfl ?_
    | refine bl_ret ?_
    | refine bl_pan ?_
    | (show retQ ..; first | refine rt_ret ?_ | refine rt_normal ?_)
    | refine rs_some ?_)
  all_goals rfl
theorem hit_lt {l : List Ob} {id : Int} (h : hitO l id = true) : ∃ x, l[posO l id]? = some x ∧ x.id = id ∧ posO l id < l.length := by
  unfold hitO at h
  split at h
  · rename_i x hx; exact ⟨x, hx, by simpa using h, len_lt hx⟩
  · cases h
def findO (w : Wd) (id : Int) : Ob × Bool := if hitO w.objects id = true then ((w.objects[posO w.objects id]?).getD Ob.zero, true) else (Ob.zero, false)
theorem obj_find (w : Wd) (id : Int) (hl : w.objects.length ≤ 1000000) (hs : RisO w.objects) : Pure Try.prog 126 [.agg (Wd.enc w), .int .u64 id] (.tup [.agg (Ob.enc (findO w id).1), .bool (findO w id).2]) := by
  have hat := obj_at w.objects id hl hs
  cases hh : hitO w.objects id with
  | true =>
    rw [hh] at hat
    obtain ⟨y, hy, hyid, hk⟩ := hit_lt hh
    have hf : findO w id = (y, true) := by unfold findO; rw [if_pos hh, hy]; rfl
    rw [hf]
    clear hh hf
    refine pureI (by kernel_rfl) (by simp only [go_sem, *]) (by simp only [go_sem, *]) Try.func126 Try.results126 rfl (by simp [Try.ntmps126]) (by kernel_rfl) ?_
    repeat' (first
    | (show pwOps ..; first | refine pops_nil ?_ | refine pops_n rfl ?_ | refine pops_w' rfl rfl ?_)
    | (show runGo ..; first | refine run_ev rfl rfl ?_ | refine run_call rfl ?_)
    | (show goOn ..; first | refine on_nop ?_ | refine on_new ?_ | refine on_put ?_ | refine on_born ?_ | refine on_grow ?_)
    | (show putGo ..; refine put_box ?_)
    | (show callGo ..; (refine call_pure (r := ?_) ?_ ?_; rotate_left 1; (focus first | exact obj_objects _ | exact hat)))
    | (show wGo ..; first | refine gw_tt ?_ | refine gw_ff ?_ | refine gw_tf ?_ | refine gw_ft ?_ | refine gw_u ?_ | refine gw_tn (fun _ => ?_) (fun _ => ?_) | refine gw_fn (fun _ => ?_) (fun _ => ?_) | refine gw_tb (fun _ => ?_) (fun _ => ?_) | refine gw_fb (fun _ => ?_) (fun _ => ?_))
    | (show dr ..; first | refine dr_nil ?_ | refine dr_n rfl ?_ | refine dr_w' rfl rfl ?_)
    | (show drGo ..; first | refine dr_ev rfl ?_ | refine dr_call rfl ?_)
    | (show drOn ..; first | refine dn_nop ?_ | refine dn_new ?_ | refine dn_put ?_ | refine dn_born ?_ | refine dn_grow ?_)
    | (show dputGo ..; refine dput_box ?_)
    | (show dcallGo ..; (refine dcall_pure (r := ?_) ?_ ?_; rotate_left 1; (focus first | exact obj_objects _ | exact hat)))
    | (refine And.intro (by kernel_rfl : okAll _ = true) ?_)
    | (show pwCode ..; first | refine pc_seq ?_ | refine pc_region ?_ | refine pc_draw (by kernel_rfl) ?_ | refine pc_ret ?_ | refine pc_skip ?_ | refine pc_block ?_ | refine pc_exit ?_ | refine pc_cond ?_)
    | (show condGo ..; first | refine cd_t ?_ | refine cd_f ?_ | refine cd_n (fun _ => ?_) (fun _ => ?_) | refine cd_b (fun _ => ?_) (fun _ => ?_))
    | refine th_normal ?_
    | refine th_ret ?_
    | refine th_exit ?_
    | refine th_pan ?_
    | refine bl_normal ?_
    | refine bl_exit ?_
    | refine bl_pass rfl ?_
    | refine bl_ret ?_
    | refine bl_pan ?_
    | (show retQ ..; first | refine rt_ret ?_ | refine rt_normal ?_)
    | refine rs_some ?_)
    all_goals rfl
  | false =>
    rw [hh] at hat
    have hf : findO w id = (Ob.zero, false) := by unfold findO; rw [if_neg (by rw [hh]; simp)]
    rw [hf]
    clear hh hf
    refine pureI (by kernel_rfl) (by simp only [go_sem, *]) (by simp only [go_sem, *]) Try.func126 Try.results126 rfl (by simp [Try.ntmps126]) (by kernel_rfl) ?_
    repeat' (first
    | (show pwOps ..; first | refine pops_nil ?_ | refine pops_n rfl ?_ | refine pops_w' rfl rfl ?_)
    | (show runGo ..; first | refine run_ev rfl rfl ?_ | refine run_call rfl ?_)
    | (show goOn ..; first | refine on_nop ?_ | refine on_new ?_ | refine on_put ?_ | refine on_born ?_ | refine on_grow ?_)
    | (show putGo ..; refine put_box ?_)
    | (show callGo ..; (refine call_pure (r := ?_) ?_ ?_; rotate_left 1; (focus first | exact obj_objects _ | exact hat)))
    | (show wGo ..; first | refine gw_tt ?_ | refine gw_ff ?_ | refine gw_tf ?_ | refine gw_ft ?_ | refine gw_u ?_ | refine gw_tn (fun _ => ?_) (fun _ => ?_) | refine gw_fn (fun _ => ?_) (fun _ => ?_) | refine gw_tb (fun _ => ?_) (fun _ => ?_) | refine gw_fb (fun _ => ?_) (fun _ => ?_))
    | (show dr ..; first | refine dr_nil ?_ | refine dr_n rfl ?_ | refine dr_w' rfl rfl ?_)
    | (show drGo ..; first | refine dr_ev rfl ?_ | refine dr_call rfl ?_)
    | (show drOn ..; first | refine dn_nop ?_ | refine dn_new ?_ | refine dn_put ?_ | refine dn_born ?_ | refine dn_grow ?_)
    | (show dputGo ..; refine dput_box ?_)
    | (show dcallGo ..; (refine dcall_pure (r := ?_) ?_ ?_; rotate_left 1; (focus first | exact obj_objects _ | exact hat)))
    | (refine And.intro (by kernel_rfl : okAll _ = true) ?_)
    | (show pwCode ..; first | refine pc_seq ?_ | refine pc_region ?_ | refine pc_draw (by kernel_rfl) ?_ | refine pc_ret ?_ | refine pc_skip ?_ | refine pc_block ?_ | refine pc_exit ?_ | refine pc_cond ?_)
    | (show condGo ..; first | refine cd_t ?_ | refine cd_f ?_ | refine cd_n (fun _ => ?_) (fun _ => ?_) | refine cd_b (fun _ => ?_) (fun _ => ?_))
    | refine th_normal ?_
    | refine th_ret ?_
    | refine th_exit ?_
    | refine th_pan ?_
    | refine bl_normal ?_
    | refine bl_exit ?_
    | refine bl_pass rfl ?_
    | refine bl_ret ?_
    | refine bl_pan ?_
    | (show retQ ..; first | refine rt_ret ?_ | refine rt_normal ?_)
    | refine rs_some ?_)
    all_goals rfl
end Go.Proofs.Ytggkjfllbfcagaa
end

section
namespace Go.Proofs.Ytggkjfllbfcagaa
open Go Go.RowKit
set_option linter.unusedVariables false
set_option linter.unusedSimpArgs false
def fnd (l : List Ob) (id : Int) : Option Ob := l.find? (fun x => x.id == id)
theorem RisO.tail {x : Ob} {l : List Ob} (h : RisO (x :: l)) : RisO l := fun i j a b ha hb hij => h (i + 1) (j + 1) a b (by simpa using ha) (by simpa using hb) (by omega)
theorem RisO.head {x : Ob} {l : List Ob} (h : RisO (x :: l)) : ∀ y ∈ l, x.id < y.id := fun y hy => by
  obtain ⟨k, hk⟩ := List.getElem?_of_mem hy
  exact h 0 (k + 1) x y rfl (by simpa using hk) (by omega)
theorem fnd_cons (x : Ob) (l : List Ob) (id : Int) : fnd (x :: l) id = if x.id = id then some x else fnd l id := by
  unfold fnd
  rw [List.find?_cons]
  by_cases h : x.id = id
  · rw [if_pos h]; simp [h]
  · rw [if_neg h]; have : (x.id == id) = false := by simpa using h
    rw [this]
theorem fnd_none {l : List Ob} {id : Int} (h : ∀ x ∈ l, x.id ≠ id) : fnd l id = none := by
  unfold fnd; rw [List.find?_eq_none]; intro x hx; simpa using h x hx
theorem posO_cons (x : Ob) (l : List Ob) (id : Int) : posO (x :: l) id = if x.id < id then posO l id + 1 else 0 := by
  unfold posO
  rw [List.takeWhile_cons]
  by_cases h : x.id < id
  · rw [if_pos (decide_eq_true h), if_pos h]; rfl
  · rw [if_neg (by simpa using h), if_neg h]; rfl
theorem hitO_cons (x : Ob) (l : List Ob) (id : Int) : hitO (x :: l) id = if x.id < id then hitO l id else x.id == id := by
  unfold hitO
  rw [posO_cons]
  by_cases h : x.id < id
  · rw [if_pos h, if_pos h]; simp only [List.getElem?_cons_succ]
  · rw [if_neg h, if_neg h]; simp only [List.getElem?_cons_zero]
theorem hit_fnd {l : List Ob} (h : RisO l) (id : Int) : (if hitO l id = true then l[posO l id]? else none) = fnd l id := by
  induction l with
  | nil => rfl
  | cons x l ih =>
    rw [hitO_cons, posO_cons, fnd_cons]
    by_cases h1 : x.id < id
    · simp only [if_pos h1, List.getElem?_cons_succ]
      rw [ih h.tail, if_neg (by omega)]
    · simp only [if_neg h1, List.getElem?_cons_zero]
      by_cases e : x.id = id
      · simp [e]
      · have : (x.id == id) = false := by simpa using e
        simp only [this, Bool.false_eq_true, if_false, if_neg e]
        rw [fnd_none (fun y hy => by have := h.head y hy; omega)]
/-- Fit worlds. -/
theorem fit_ris {w : Wd} (h : wdFit w = true) : RisO w.objects ∧ (∀ x ∈ w.objects, sound x = true) ∧ w.objects.length ≤ 1024 ∧ decide (w.time < 0) = false ∧ decide (w.time > 1099511627776) = false := by
  unfold wdFit at h
  simp only [Bool.and_eq_true, Bool.not_eq_true'] at h
  obtain ⟨⟨h1, h2, h3⟩, h4⟩ := h
  have hat := allB_iff.1 h4
  have snd : ∀ x ∈ w.objects, sound x = true := fun x hx => by
    obtain ⟨k, hk⟩ := List.getElem?_of_mem hx
    have := hat k (len_lt hk)
    unfold obAt at this; rw [hk] at this
    simp only [Bool.and_eq_true] at this
    exact this.1
  have adj : ∀ (k : Nat) (x y : Ob), w.objects[k]? = some x → w.objects[k + 1]? = some y → x.id < y.id := fun k x y hx hy => by
    have := hat (k + 1) (len_lt hy)
    unfold obAt at this; rw [hy] at this
    simp only [hx, Bool.and_eq_true, Bool.not_eq_true', decide_eq_false_iff_not] at this
    omega
  have far : ∀ (d i : Nat) (x y : Ob), w.objects[i]? = some x → w.objects[i + d + 1]? = some y → x.id < y.id := by
    intro d
    induction d with
    | zero => intro i x y hx hy; exact adj i x y hx hy
    | succ d ih =>
      intro i x y hx hy
      obtain ⟨z, hz⟩ := lt_len (by have := len_lt hy; omega : i + d + 1 < w.objects.length)
      have h1 := ih i x z hx hz
      have h2 := adj (i + d + 1) z y hz (by rw [show i + d + 1 + 1 = i + (d + 1) + 1 by omega]; exact hy)
      omega
  refine ⟨fun i j x y hx hy hij => far (j - i - 1) i x y hx (by rw [show i + (j - i - 1) + 1 = j by omega]; exact hy), snd, ?_, h1, h2⟩
  have := of_decide_eq_false h3; omega
theorem findO_eq {w : Wd} (h : RisO w.objects) (id : Int) : findO w id = findR w id := by
  have := hit_fnd h id
  unfold findO findR
  unfold fnd at this
  cases hh : hitO w.objects id with
  | true =>
    obtain ⟨x, hx, _⟩ := hit_lt hh
    rw [hh, if_pos rfl, hx] at this
    rw [← this, if_pos rfl, hx]; rfl
  | false =>
    rw [hh, if_neg (by simp)] at this
    rw [← this, if_neg (by simp)]
theorem findR_fnd (w : Wd) (id : Int) : findR w id = match fnd w.objects id with | some x => (x, true) | none => (Ob.zero, false) := rfl
end Go.Proofs.Ytggkjfllbfcagaa
end
