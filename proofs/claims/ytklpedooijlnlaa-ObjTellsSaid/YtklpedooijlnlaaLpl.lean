import Derived.Test.YtklpedooijlnlaaEb7
import Derived.Test.YtklpedooijlnlaaLpu
namespace Go.Proofs.Ytklpedooijlnlaa
open Go Go.RowKit
set_option linter.unusedVariables false
set_option linter.unusedSimpArgs false
/-! Plain laws: what the program tells of objects is what the document tells. -/
theorem labAt_get {l : List Pr} (h : labFit l = true) {k : Nat} {x : Pr} (hx : l[k]? = some x) : 0 ≤ x.lev ∧ x.lev ≤ 5 ∧ x.lev ≠ 2 ∧ ∀ j, k = j + 1 → ∀ y, l[j]? = some y → y.cat < x.cat := by
  have := allB_iff.1 h k (len_lt hx)
  unfold labFitAt at this
  rw [hx] at this
  simp only [Bool.and_eq_true, levFit, decide_eq_true_eq, Bool.not_eq_true', beq_eq_false_iff_ne, ne_eq] at this
  obtain ⟨⟨⟨h1, h2⟩, h3⟩, h4⟩ := this
  refine ⟨h1, h2, h3, ?_⟩
  rintro j rfl y hy
  simp only [hy, Bool.not_eq_true', decide_eq_false_iff_not] at h4
  omega
theorem fit_of {l : List Pr} (h : labFit l = true) : FitL (labOf l) := by
  have adj : ∀ (k : Nat) (x y : Pr), l[k]? = some y → l[k + 1]? = some x → y.cat < x.cat := fun k x y hy hx => (labAt_get h hx).2.2.2 k rfl y hy
  have far : ∀ (d i : Nat) (x y : Pr), l[i]? = some x → l[i + d + 1]? = some y → x.cat < y.cat := by
    intro d
    induction d with
    | zero => intro i x y hx hy; exact adj i y x hx hy
    | succ d ih =>
      intro i x y hx hy
      obtain ⟨z, hz⟩ := lt_len (by have := len_lt hy; omega : i + d + 1 < l.length)
      have h1 := ih i x z hx hz
      have h2 := adj (i + d + 1) y z hz (by rw [show i + d + 1 + 1 = i + (d + 1) + 1 by omega]; exact hy)
      omega
  refine ⟨sorted_iff.1 ?_, ?_⟩
  · intro i j hi hj hij
    simp only [labOf, List.getElem_map]
    have hi' : i < l.length := by simpa [labOf] using hi
    have hj' : j < l.length := by simpa [labOf] using hj
    exact far (j - i - 1) i _ _ (List.getElem?_eq_getElem hi') (by rw [show i + (j - i - 1) + 1 = j by omega]; exact List.getElem?_eq_getElem hj')
  · intro p hp
    obtain ⟨x, hx, rfl⟩ := List.mem_map.1 hp
    obtain ⟨k, hk⟩ := List.getElem?_of_mem hx
    obtain ⟨h1, h2, h3, _⟩ := labAt_get h hk
    exact ⟨h1, h2, h3⟩
theorem get_of (l : List Pr) (c : Int) : getL (labOf l) c = labGet l c := by
  unfold getL labGet labOf
  rw [List.find?_map]
  have : ((fun p : Int × Int => p.1 == c) ∘ fun p : Pr => (p.cat, p.lev)) = fun p : Pr => p.cat == c := rfl
  rw [this]
  cases l.find? (fun p => p.cat == c) <;> rfl
theorem levOf_fit {n : Int} (h : 0 ≤ n ∧ n ≤ 5) : levOf n = n := by
  unfold levOf levFit; rw [if_pos]; simp only [Bool.and_eq_true, decide_eq_true_eq]; omega
theorem levLeq_iff {x y : Int} (hx : 0 ≤ x ∧ x ≤ 5) (hy : 0 ≤ y ∧ y ≤ 5) : levLeq x y = true ↔ x ≤ y := by
  unfold levLeq; rw [levOf_fit hx, levOf_fit hy, decide_eq_true_eq]
theorem leq_eq {a b : List Pr} (ha : labFit a = true) (hb : labFit b = true) : labLeq a b = leqR a b := by
  have fa := fit_of ha
  have fb := fit_of hb
  have ra := getL_range fa
  have rb := getL_range fb
  have ga : ∀ {k : Nat} {x : Pr}, a[k]? = some x → getL (labOf a) x.cat = x.lev := fun hx => getL_mem fa.sorted (p := (_, _)) (List.mem_map.2 ⟨_, List.mem_of_getElem? hx, rfl⟩)
  have gb : ∀ {k : Nat} {x : Pr}, b[k]? = some x → getL (labOf b) x.cat = x.lev := fun hx => getL_mem fb.sorted (p := (_, _)) (List.mem_map.2 ⟨_, List.mem_of_getElem? hx, rfl⟩)
  rw [Bool.eq_iff_iff]
  unfold labLeq leqR
  rw [leqB_iff fa fb, Bool.and_eq_true, allB_iff, allB_iff]
  constructor
  · intro h
    refine ⟨fun j hj => ?_, fun j hj => ?_⟩
    · obtain ⟨x, hx⟩ := lt_len hj
      obtain ⟨h1, h2, _⟩ := labAt_get ha hx
      unfold leqAt; rw [hx]; simp only
      rw [← get_of, levLeq_iff ⟨h1, h2⟩ (rb _), ← ga hx]
      exact h x.cat
    · obtain ⟨x, hx⟩ := lt_len hj
      obtain ⟨h1, h2, _⟩ := labAt_get hb hx
      unfold geqAt; rw [hx]; simp only
      rw [← get_of, levLeq_iff (ra _) ⟨h1, h2⟩, ← gb hx]
      exact h x.cat
  · rintro ⟨h1, h2⟩ c
    rcases getL_or fa.sorted c with ⟨p, hp, rfl, he⟩ | ⟨_, he⟩
    · obtain ⟨x, hx, rfl⟩ := List.mem_map.1 hp
      obtain ⟨k, hk⟩ := List.getElem?_of_mem hx
      have := h1 k (len_lt hk)
      obtain ⟨g1, g2, _⟩ := labAt_get ha hk
      unfold leqAt at this; rw [hk] at this; simp only at this
      rw [← get_of, levLeq_iff ⟨g1, g2⟩ (rb _)] at this
      rw [he]; exact this
    · rcases getL_or fb.sorted c with ⟨q, hq, rfl, he2⟩ | ⟨_, he2⟩
      · obtain ⟨x, hx, rfl⟩ := List.mem_map.1 hq
        obtain ⟨k, hk⟩ := List.getElem?_of_mem hx
        have := h2 k (len_lt hk)
        obtain ⟨g1, g2, _⟩ := labAt_get hb hk
        unfold geqAt at this; rw [hk] at this; simp only at this
        rw [← get_of, levLeq_iff (ra _) ⟨g1, g2⟩] at this
        rw [he2]; exact this
      · rw [he, he2]; exact Int.le_refl _
theorem merge_nil (l : Lab) : mergeB l [] = l.map (fun p => (p.1, (p.2, 2))) := by
  induction l with
  | nil => rw [mergeB]; rfl
  | cons p t ih => rw [mergeB, ih]; rfl
theorem ofL_levOf (n : Int) : ofL n = levOf n := by
  unfold ofL levOf levFit
  by_cases h : 0 ≤ n ∧ n ≤ 5
  · rw [if_pos h, if_pos (by simp only [Bool.and_eq_true, decide_eq_true_eq]; omega)]
  · rw [if_neg h, if_neg (by simp only [Bool.and_eq_true, decide_eq_true_eq]; omega)]
theorem raL_levUp (n : Int) : raL n = levUp n := by
  unfold raL levUp
  rw [ofL_levOf]
  by_cases h : levOf n = 0
  · rw [if_pos h, if_pos (by rw [h]; rfl)]
  · rw [if_neg h, if_neg (by simpa using h)]
theorem fm_map {α β : Type} (f : α → Option β) (g : α → β) : ∀ (l : List α), (∀ x ∈ l, f x = some (g x)) → l.filterMap f = l.map g
  | [], _ => rfl
  | x :: l, h => by
    rw [List.filterMap_cons, h x (by simp), List.map_cons, fm_map f g l (fun y hy => h y (by simp [hy]))]
theorem raise_eq {l : List Pr} (h : labFit l = true) : labRaise l = l.map upPr := by
  unfold labRaise foldB
  rw [merge_nil]
  unfold foldX labOf
  rw [List.map_map, List.filterMap_map, List.map_filterMap]
  refine fm_map _ _ l (fun x hx => ?_)
  obtain ⟨k, hk⟩ := List.getElem?_of_mem hx
  obtain ⟨h1, h2, h3, _⟩ := labAt_get h hk
  have : raL x.lev ≠ 2 := by unfold raL; rw [ofL_of ⟨h1, h2⟩]; split <;> omega
  have h5 : levUp x.lev ≠ 2 := by rw [← raL_levUp]; exact this
  simp [Function.comp, ofPair, upPr, raL_levUp, h5]
theorem levUp_ne (n : Int) : levUp n ≠ 0 := by
  unfold levUp
  split
  · decide
  · rename_i h; simpa using h
theorem good_one (m : Mp) : good m = mapOne m := by
  unfold good mapOne within
  simp only [IntKind.wrap_i64]
  rw [Bool.eq_iff_iff]; simp only [Bool.and_eq_true, decide_eq_true_eq]; omega
theorem pgFit_eq (l : List Mp) : pgFit l = mapFit l := by
  unfold pgFit mapFit
  rw [Bool.and_comm]
  have : pgAt l = mapAt l := by
    funext k; unfold pgAt mapAt; cases l[k]? with
    | none => rfl
    | some x => simp only [good_one]; cases k <;> rfl
  rw [this]
theorem up_any {α : Type} (of : α → Int) (ok : α → Bool) (l : List α) (at_ : Nat → Bool) (h : ∀ k x, l[k]? = some x → at_ k = (ok x && match k with | 0 => true | j + 1 => match l[j]? with | some y => !decide (of y ≥ of x) | none => true)) :
    (allB (l.length - 1) (upAt of l) && !l.any (fun x => !ok x)) = allB l.length at_ := by
  rw [Bool.eq_iff_iff, Bool.and_eq_true, allB_iff, allB_iff, Bool.not_eq_true', List.any_eq_false]
  constructor
  · rintro ⟨h1, h2⟩ k hk
    obtain ⟨x, hx⟩ := lt_len hk
    rw [h k x hx]
    have hok : ok x = true := by simpa using h2 x (List.mem_of_getElem? hx)
    rw [hok]
    cases k with
    | zero => rfl
    | succ j =>
      obtain ⟨y, hy⟩ := lt_len (by omega : j < l.length)
      have := h1 j (by omega)
      unfold upAt at this; rw [hy] at this; simp only [hx] at this
      simp only [hy, Bool.true_and]; exact this
  · intro hh
    refine ⟨fun j hj => ?_, fun x hx => ?_⟩
    · obtain ⟨y, hy⟩ := lt_len (by omega : j < l.length)
      obtain ⟨x, hx⟩ := lt_len (by omega : j + 1 < l.length)
      have := hh (j + 1) (by omega)
      rw [h _ x hx] at this; simp only [hy, Bool.and_eq_true] at this
      unfold upAt; rw [hy]; simp only [hx]; exact this.2
    · obtain ⟨k, hk⟩ := List.getElem?_of_mem hx
      have := hh k (len_lt hk)
      rw [h k x hk, Bool.and_eq_true] at this; simp [this.1]
theorem kept_fit {l : List Pr} (h : kept l = true) : labFit l = true := by
  unfold kept at h; simp only [Bool.and_eq_true] at h; exact h.2.2
theorem th_eq (o : Ob) (hl : kept o.label = true) : thFitO o = (thFit o.label o.thread && !o.fixed) := by
  unfold thFitO thFit
  cases hc : kept o.thread.clear with
  | false => simp
  | true =>
    rw [leq_eq (kept_fit hl) (kept_fit hc)]
    have hst : (o.thread.state == 0 || (o.thread.state == 1 || o.thread.state == 2)) = (decide (o.thread.state ≥ 0) && decide (o.thread.state ≤ 2)) := by
      rw [Bool.eq_iff_iff]; simp only [Bool.or_eq_true, Bool.and_eq_true, decide_eq_true_eq, beq_iff_eq]; omega
    rw [hst]
    generalize allB 4 (labsKept o.thread) = a1
    generalize (o.thread.state == 1) = a2
    generalize decide (o.thread.wait = Wt.zero) = a3
    generalize decide (o.thread.state ≥ 0) = a4
    generalize decide (o.thread.state ≤ 2) = a5
    generalize leqR o.label o.thread.clear = a6
    generalize decide ((o.thread.alerts.length : Int) ≤ 8) = a7
    generalize spanFit o.thread.span = a8
    generalize o.fixed = a9
    revert a1 a2 a3 a4 a5 a6 a7 a8 a9; decide
theorem inner_eq (o : Ob) (hl : kept o.label = true) : innerO o = inner o := by
  unfold innerO inner
  split
  · rw [Int.mul_comm]
  · split
    · congr 1
      refine up_any (fun x => x) idOk o.links (risAt o.links) (fun k x hx => ?_)
      unfold risAt; rw [hx]
      cases k with
      | zero => rfl
      | succ j => cases hq : o.links[j]? <;> simp only [hq]
    · split
      · exact pgFit_eq _
      · split
        · exact th_eq o hl
        · split
          · cases h1 : kept o.gate.grant with
            | false => rfl
            | true =>
              cases h2 : kept o.gate.clear with
              | false => rfl
              | true => rw [leq_eq (kept_fit h1) (kept_fit h2)]
          · rfl
theorem bc (a b : Int) : (a == b) = (b == a) := by rw [Bool.eq_iff_iff]; simp only [beq_iff_eq]; exact eq_comm
theorem dcm {α : Type} [DecidableEq α] (a b : α) : decide (a = b) = decide (b = a) := decide_eq_decide.2 eq_comm
theorem labsEq_symm (a b : Th) : labsEq a b = labsEq b a := by funext i; exact dcm _ _
theorem regsEq_symm (f g : Nat → Int) : regsEq f g = regsEq g f := by unfold regsEq; congr 1; funext i; exact bc _ _
theorem sameTh_symm (a b : Th) : sameTh a b = sameTh b a := by
  unfold sameTh
  rw [labsEq_symm a b, regsEq_symm a.regs, bc a.pc, dcm a.clear, dcm a.space, bc a.handler, bc a.vector, bc a.state, dcm a.wait, dcm a.alerts, dcm a.span]
theorem sameGt_symm (a b : Gt) : sameGt a b = sameGt b a := by
  unfold sameGt
  rw [dcm a.grant, dcm a.clear, dcm a.space, bc a.pc, bc a.arg]
theorem labsEq_refl (a : Th) : allB 4 (labsEq a a) = true := allB_true fun j _ => decide_eq_true rfl
theorem regsEq_refl (f : Nat → Int) : regsEq f f = true := by unfold regsEq; simp
theorem sameTh_refl (a : Th) : sameTh a a = true := by unfold sameTh; simp [labsEq_refl, regsEq_refl]
theorem sameGt_refl (a : Gt) : sameGt a a = true := by unfold sameGt; simp
theorem sameOb_refl (a : Ob) : sameOb a a = true := by unfold sameOb; simp [sameTh_refl, sameGt_refl]
theorem nilI (l : List Int) : decide ([] = l) = decide (l = []) := dcm _ _
theorem nilM (l : List Mp) : decide ([] = l) = decide (l = []) := dcm _ _
theorem zTh (t : Th) : sameTh Th.zero t = sameTh t Th.zero := sameTh_symm _ _
theorem zGt (t : Gt) : sameGt Gt.zero t = sameGt t Gt.zero := sameGt_symm _ _
theorem alone_eq (o : Ob) (hk : 1 ≤ o.kind ∧ o.kind ≤ 6) : sameOb (bareOf o) (headOf o) = sameOb (aloneOf o) o := by
  have h : o.kind = 1 ∨ o.kind = 2 ∨ o.kind = 3 ∨ o.kind = 4 ∨ o.kind = 5 ∨ o.kind = 6 := by omega
  unfold bareOf aloneOf
  rcases h with h | h | h | h | h | h <;> rw [h] <;> simp only [Int.reduceBEq, if_true, if_false, Bool.false_eq_true, beq_self_eq_true, sameOb, headOf, Ob.zero, decide_true, Bool.true_and, Bool.and_true, sameTh_refl, sameGt_refl, nilI, nilM, zTh, zGt, h]
theorem sound_eq (o : Ob) : soundO o = sound o := by
  unfold soundO sound soundHead
  by_cases hk : 1 ≤ o.kind ∧ o.kind ≤ 6
  · cases hl : kept o.label with
    | false => simp
    | true =>
      rw [alone_eq o hk, inner_eq o hl]
      generalize idOk o.id = a1
      generalize decide (o.kind < 1) = a2
      generalize decide (o.kind > 6) = a3
      generalize decide (o.quota < 1) = a4
      generalize decide (o.quota > 4096) = a5
      generalize sameOb (aloneOf o) o = a6
      generalize (o.kind == 4) = a7
      generalize decide (((own o.label).length : Int) > 0) = a8
      generalize inner o = a9
      revert a1 a2 a3 a4 a5 a6 a7 a8 a9; decide
  · have : decide (o.kind < 1) = true ∨ decide (o.kind > 6) = true := by
      rcases Classical.em (o.kind < 1) with h | h
      · exact .inl (decide_eq_true h)
      · exact .inr (decide_eq_true (by omega))
    rcases this with h | h <;> simp [h]
theorem fit_eq (w : Wd) : fitO w = wdFit w := by
  unfold fitO wdFit
  have e1 : (fun o => !soundO o) = fun o => !sound o := by funext o; rw [sound_eq]
  rw [e1, up_any Ob.id sound w.objects (obAt w.objects) (fun k x hx => by
    unfold obAt; rw [hx]
    cases k with
    | zero => rfl
    | succ j => cases hq : w.objects[j]? <;> simp only [hq])]
  have a1 : decide (w.time ≥ 0) = !decide (w.time < 0) := by rw [Bool.eq_iff_iff]; simp
  have a2 : decide (w.time ≤ 1099511627776) = !decide (w.time > 1099511627776) := by rw [Bool.eq_iff_iff]; simp
  have a3 : decide ((w.objects.length : Int) ≤ 1024) = !decide ((w.objects.length : Int) > 1024) := by rw [Bool.eq_iff_iff]; simp
  rw [a1, a2, a3]
  simp only [Bool.and_assoc]
theorem eqObs_refl (l : List Ob) : eqObs l l = true := by
  unfold eqObs
  rw [decide_eq_true rfl, Bool.true_and]
  refine allB_true fun j hj => ?_
  obtain ⟨x, hx⟩ := lt_len hj
  unfold eqAt; rw [hx]; exact sameOb_refl x
theorem sameWd_refl (w : Wd) : sameWd w w = true := by unfold sameWd; simp [eqObs_refl]
theorem pages_eq (o : Ob) (h : o.data.length ≤ 1000000) : pagesO o = pagesR o := by
  unfold pagesO pagesR
  generalize o.data.length = n at h
  have e1 : (n : Int).tmod 16 = (n : Int) % 16 := Int.tmod_eq_emod_of_nonneg (Int.natCast_nonneg n)
  have e2 : (n : Int).tdiv 16 = (n : Int) / 16 := Int.tdiv_eq_ediv_of_nonneg (Int.natCast_nonneg n)
  have e3 : IntKind.i64.wrap (IntKind.i64.wrap ((n : Int) + 16) - 1) = (n : Int) + 15 := by rw [IntKind.wrap_i64, IntKind.wrap_i64]; omega
  have e4 : ((n : Int) + 15).tdiv 16 = ((n : Int) + 15) / 16 := Int.tdiv_eq_ediv_of_nonneg (by omega)
  have w : ∀ x : Int, 0 ≤ x → x ≤ 2000000 → IntKind.i64.wrap x = x := fun x h1 h2 => by rw [IntKind.wrap_i64]; omega
  rw [e1, e2, e3, e4, w ((n : Int) / 16) (by omega) (by omega), w (((n : Int) + 15) / 16) (by omega) (by omega), w ((n : Int) / 16 + 1) (by omega) (by omega), w (1 + ((n : Int) + 15) / 16) (by omega) (by omega)]
  by_cases hc : (n : Int) % 16 > 0
  · rw [if_pos (decide_eq_true hc), w _ (by omega) (by omega)]; omega
  · rw [if_neg (by simpa using hc)]; omega
theorem sound_data {o : Ob} (h : sound o = true) : 1 ≤ o.quota ∧ o.quota ≤ 4096 ∧ (o.data.length : Int) ≤ 16 * (o.quota - 1) := by
  unfold sound soundHead at h
  simp only [Bool.and_eq_true, Bool.not_eq_true', decide_eq_false_iff_not] at h
  obtain ⟨⟨_, hk1, hk2, _, hq1, hq2, ha⟩, _, hi⟩ := h
  refine ⟨by omega, by omega, ?_⟩
  by_cases h1 : o.kind = 1
  · unfold inner at hi
    rw [h1] at hi
    simp only [beq_self_eq_true, if_true, decide_eq_true_eq, IntKind.wrap_i64] at hi
    omega
  · have hd : o.data = [] := by
      unfold sameOb at ha
      simp only [Bool.and_eq_true] at ha
      have h2 := ha.2.2.1
      have e : (aloneOf o).data = [] := by
        unfold aloneOf
        rw [if_neg (by simpa using h1)]
        split <;> (try split) <;> (try split) <;> (try split) <;> (try split) <;> rfl
      rw [e] at h2
      exact (of_decide_eq_true h2).symm
    rw [hd]; simp; omega
theorem pages_quota {o : Ob} (h : sound o = true) : pagesR o ≤ o.quota := by
  obtain ⟨h1, h2, h3⟩ := sound_data h
  unfold pagesR
  generalize o.data.length = n at h3
  have e3 : IntKind.i64.wrap (IntKind.i64.wrap ((n : Int) + 16) - 1) = (n : Int) + 15 := by rw [IntKind.wrap_i64, IntKind.wrap_i64]; omega
  have e4 : ((n : Int) + 15).tdiv 16 = ((n : Int) + 15) / 16 := Int.tdiv_eq_ediv_of_nonneg (by omega)
  have w : ∀ x : Int, 0 ≤ x → x ≤ 2000000 → IntKind.i64.wrap x = x := fun x h1 h2 => by rw [IntKind.wrap_i64]; omega
  rw [e3, e4, w (((n : Int) + 15) / 16) (by omega) (by omega), w _ (by omega) (by omega)]
  omega
theorem sound_kept {o : Ob} (h : sound o = true) : kept o.label = true := by
  unfold sound soundHead at h
  simp only [Bool.and_eq_true] at h
  exact h.1.2.2.2.1
theorem shown_eq {o : Ob} (h : sound o = true) : shownOf o = shownR o := by
  unfold shownOf shownR
  rw [raise_eq (kept_fit (sound_kept h))]
theorem shown_star {o : Ob} (h : sound o = true) : ∀ x ∈ shownR o, (x.lev == 0) = false := by
  intro x hx
  unfold shownR at hx
  split at hx
  · obtain ⟨y, _, rfl⟩ := List.mem_map.1 hx
    simpa [upPr] using levUp_ne y.lev
  · rename_i hk
    unfold sound at h
    rw [Bool.and_eq_true, Bool.and_eq_true, Bool.or_eq_true] at h
    have h0 : own o.label = [] := by
      rcases h.2.1 with h1 | h1
      · exact absurd h1 hk
      · refine List.eq_nil_of_length_eq_zero ?_
        have : decide (((own o.label).length : Int) > 0) = false := by simpa using h1
        have := of_decide_eq_false this
        omega
    unfold own at h0
    rw [List.map_eq_nil_iff, List.filter_eq_nil_iff] at h0
    have := h0 x hx
    simpa using this
theorem shown_len {o : Ob} : (shownR o).length = o.label.length := by unfold shownR; split <;> simp
end Go.Proofs.Ytklpedooijlnlaa
