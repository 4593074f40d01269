import Derived.Test.YteibeoipnjhicaaGreatEb7
import Derived.Test.YteibeoipnjhicaaGreatLpu
namespace Go.Proofs.YteibeoipnjhicaaGreat
open Go Go.RowKit
set_option linter.unusedVariables false
set_option linter.unusedSimpArgs false
theorem q6f {l : List Pr} (h : q4i l = true) {k : Nat} {x : Pr} (hx : l[k]? = some x) : 0 ≤ x.lev ∧ x.lev ≤ 5 ∧ x.lev ≠ 2 ∧ ∀ j, k = j + 1 → ∀ y, l[j]? = some y → y.cat < x.cat := by
  have := allB_iff.1 h k (q5f hx)
  unfold q6m at this
  rw [hx] at this
  simp only [Bool.and_eq_true, q7a, decide_eq_true_eq, Bool.not_eq_true', beq_eq_false_iff_ne, ne_eq] at this
  obtain ⟨⟨⟨h1, h2⟩, h3⟩, h4⟩ := this
  refine ⟨h1, h2, h3, ?_⟩
  rintro j rfl y hy
  simp only [hy, Bool.not_eq_true', decide_eq_false_iff_not] at h4
  omega
theorem fit_of {l : List Pr} (h : q4i l = true) : FitL (q5v l) := by
  have adj : ∀ (k : Nat) (x y : Pr), l[k]? = some y → l[k + 1]? = some x → y.cat < x.cat := fun k x y hy hx => (q6f h hx).2.2.2 k rfl y hy
  have far : ∀ (d i : Nat) (x y : Pr), l[i]? = some x → l[i + d + 1]? = some y → x.cat < y.cat := by
    intro d
    induction d with
    | zero => intro i x y hx hy; exact adj i y x hx hy
    | succ d ih =>
      intro i x y hx hy
      obtain ⟨z, hz⟩ := q3j (by have := q5f hy; omega : i + d + 1 < l.length)
      have h1 := ih i x z hx hz
      have h2 := adj (i + d + 1) y z hz (by rw [show i + d + 1 + 1 = i + (d + 1) + 1 by omega]; exact hy)
      omega
  refine ⟨sorted_iff.1 ?_, ?_⟩
  · intro i j hi hj hij
    simp only [q5v, List.getElem_map]
    have hi' : i < l.length := by simpa [q5v] using hi
    have hj' : j < l.length := by simpa [q5v] using hj
    exact far (j - i - 1) i _ _ (List.getElem?_eq_getElem hi') (by rw [show i + (j - i - 1) + 1 = j by omega]; exact List.getElem?_eq_getElem hj')
  · intro p hp
    obtain ⟨x, hx, rfl⟩ := List.mem_map.1 hp
    obtain ⟨k, hk⟩ := List.getElem?_of_mem hx
    obtain ⟨h1, h2, h3, _⟩ := q6f h hk
    exact ⟨h1, h2, h3⟩
theorem get_of (l : List Pr) (c : Int) : getL (q5v l) c = q9d l c := by
  unfold getL q9d q5v
  rw [List.find?_map]
  have : ((fun p : Int × Int => p.1 == c) ∘ fun p : Pr => (p.cat, p.lev)) = fun p : Pr => p.cat == c := rfl
  rw [this]
  cases l.find? (fun p => p.cat == c) <;> rfl
theorem levOf_fit {n : Int} (h : 0 ≤ n ∧ n ≤ 5) : q8a n = n := by
  unfold q8a q7a; rw [if_pos]; simp only [Bool.and_eq_true, decide_eq_true_eq]; omega
theorem q8o {x y : Int} (hx : 0 ≤ x ∧ x ≤ 5) (hy : 0 ≤ y ∧ y ≤ 5) : levLeq x y = true ↔ x ≤ y := by
  unfold levLeq; rw [levOf_fit hx, levOf_fit hy, decide_eq_true_eq]
theorem leq_eq {a b : List Pr} (ha : q4i a = true) (hb : q4i b = true) : labLeq a b = leqR a b := by
  have fa := fit_of ha
  have fb := fit_of hb
  have ra := getL_range fa
  have rb := getL_range fb
  have ga : ∀ {k : Nat} {x : Pr}, a[k]? = some x → getL (q5v a) x.cat = x.lev := fun hx => getL_mem fa.sorted (p := (_, _)) (List.mem_map.2 ⟨_, List.mem_of_getElem? hx, rfl⟩)
  have gb : ∀ {k : Nat} {x : Pr}, b[k]? = some x → getL (q5v b) x.cat = x.lev := fun hx => getL_mem fb.sorted (p := (_, _)) (List.mem_map.2 ⟨_, List.mem_of_getElem? hx, rfl⟩)
  rw [Bool.eq_iff_iff]
  unfold labLeq leqR
  rw [leqB_iff fa fb, Bool.and_eq_true, allB_iff, allB_iff]
  constructor
  · intro h
    refine ⟨fun j hj => ?_, fun j hj => ?_⟩
    · obtain ⟨x, hx⟩ := q3j hj
      obtain ⟨h1, h2, _⟩ := q6f ha hx
      unfold leqAt; rw [hx]; simp only
      rw [← get_of, q8o ⟨h1, h2⟩ (rb _), ← ga hx]
      exact h x.cat
    · obtain ⟨x, hx⟩ := q3j hj
      obtain ⟨h1, h2, _⟩ := q6f hb hx
      unfold geqAt; rw [hx]; simp only
      rw [← get_of, q8o (ra _) ⟨h1, h2⟩, ← gb hx]
      exact h x.cat
  · rintro ⟨h1, h2⟩ c
    rcases getL_or fa.sorted c with ⟨p, hp, rfl, he⟩ | ⟨_, he⟩
    · obtain ⟨x, hx, rfl⟩ := List.mem_map.1 hp
      obtain ⟨k, hk⟩ := List.getElem?_of_mem hx
      have := h1 k (q5f hk)
      obtain ⟨g1, g2, _⟩ := q6f ha hk
      unfold leqAt at this; rw [hk] at this; simp only at this
      rw [← get_of, q8o ⟨g1, g2⟩ (rb _)] at this
      rw [he]; exact this
    · rcases getL_or fb.sorted c with ⟨q, hq, rfl, he2⟩ | ⟨_, he2⟩
      · obtain ⟨x, hx, rfl⟩ := List.mem_map.1 hq
        obtain ⟨k, hk⟩ := List.getElem?_of_mem hx
        have := h2 k (q5f hk)
        obtain ⟨g1, g2, _⟩ := q6f hb hk
        unfold geqAt at this; rw [hk] at this; simp only at this
        rw [← get_of, q8o (ra _) ⟨g1, g2⟩] at this
        rw [he2]; exact this
      · rw [he, he2]; exact Int.le_refl _
theorem merge_nil (l : Lab) : q3i l [] = l.map (fun p => (p.1, (p.2, 2))) := by
  induction l with
  | nil => rw [q3i]; rfl
  | cons p t ih => rw [q3i, ih]; rfl
theorem ofL_levOf (n : Int) : ofL n = q8a n := by
  unfold ofL q8a q7a
  by_cases h : 0 ≤ n ∧ n ≤ 5
  · rw [if_pos h, if_pos (by simp only [Bool.and_eq_true, decide_eq_true_eq]; omega)]
  · rw [if_neg h, if_neg (by simp only [Bool.and_eq_true, decide_eq_true_eq]; omega)]
theorem raL_levUp (n : Int) : raL n = levUp n := by
  unfold raL levUp
  rw [ofL_levOf]
  by_cases h : q8a n = 0
  · rw [if_pos h, if_pos (by rw [h]; rfl)]
  · rw [if_neg h, if_neg (by simpa using h)]
theorem fm_map {α β : Type} (f : α → Option β) (g : α → β) : ∀ (l : List α), (∀ x ∈ l, f x = some (g x)) → l.filterMap f = l.map g
  | [], _ => rfl
  | x :: l, h => by
    rw [List.filterMap_cons, h x (by simp), List.map_cons, fm_map f g l (fun y hy => h y (by simp [hy]))]
theorem raise_eq {l : List Pr} (h : q4i l = true) : q8q l = l.map upPr := by
  unfold q8q foldB
  rw [merge_nil]
  unfold foldX q5v
  rw [List.map_map, List.filterMap_map, List.map_filterMap]
  refine fm_map _ _ l (fun x hx => ?_)
  obtain ⟨k, hk⟩ := List.getElem?_of_mem hx
  obtain ⟨h1, h2, h3, _⟩ := q6f h hk
  have : raL x.lev ≠ 2 := by unfold raL; rw [ofL_of ⟨h1, h2⟩]; split <;> omega
  have h5 : levUp x.lev ≠ 2 := by rw [← raL_levUp]; exact this
  simp [Function.comp, ofPair, upPr, raL_levUp, h5]
theorem kept_fit {l : List Pr} (h : kept l = true) : q4i l = true := by
  unfold kept at h; simp only [Bool.and_eq_true] at h; exact h.2.2
theorem labsEq_refl (a : Th) : allB 4 (labsEq a a) = true := q3v fun j _ => decide_eq_true rfl
theorem regsEq_refl (f : Nat → Int) : regsEq f f = true := by unfold regsEq; simp
theorem sameTh_refl (a : Th) : sameTh a a = true := by unfold sameTh; simp [labsEq_refl, regsEq_refl]
theorem sameGt_refl (a : Gt) : sameGt a a = true := by unfold sameGt; simp
theorem q9g (a : Ob) : q7u a a = true := by unfold q7u; simp [sameTh_refl, sameGt_refl]
theorem eqObs_refl (l : List Ob) : eqObs l l = true := by
  unfold eqObs
  rw [decide_eq_true rfl, Bool.true_and]
  refine q3v fun j hj => ?_
  obtain ⟨x, hx⟩ := q3j hj
  unfold eqAt; rw [hx]; exact q9g x
theorem sameWd_refl (w : Wd) : sameWd w w = true := by unfold sameWd; simp [eqObs_refl]
theorem sound_kept {o : Ob} (h : sound o = true) : kept o.label = true := by
  unfold sound q6w at h
  simp only [Bool.and_eq_true] at h
  exact h.1.2.2.2.1
theorem shown_eq {o : Ob} (h : sound o = true) : shownOf o = q5e o := by
  unfold shownOf q5e
  rw [raise_eq (kept_fit (sound_kept h))]
theorem shown_len {o : Ob} : (q5e o).length = o.label.length := by unfold q5e; split <;> simp
end Go.Proofs.YteibeoipnjhicaaGreat
