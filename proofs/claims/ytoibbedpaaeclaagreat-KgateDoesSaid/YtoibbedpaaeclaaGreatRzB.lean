import Derived.Test.YtoibbedpaaeclaaGreatRzA
import Derived.Test.YtoibbedpaaeclaaGreatRz8
import Derived.Test.YtoibbedpaaeclaaGreatRz9
import Derived.Test.YtoibbedpaaeclaaGreatRz7
import Derived.Test.YtoibbedpaaeclaaGreatRz6
section
namespace Go.Proofs.YtoibbedpaaeclaaGreat
open Go Go.RowKit
set_option linter.unusedVariables false
set_option linter.unusedSimpArgs false
def insP (c lev : Int) : List Pr → List Pr
  | [] => [⟨c, lev⟩]
  | x :: l => if decide (x.cat > c) = true then ⟨c, lev⟩ :: x :: l.filter (fun y => y.cat != c) else if (x.cat == c) = true then insP c lev l else x :: insP c lev l
theorem wst_done (c lev : Int) : ∀ (l acc : List Pr), l.foldl (wst c lev) (acc, true) = (acc ++ l.filter (fun y => y.cat != c), true)
  | [], acc => by simp
  | x :: l, acc => by
    rw [List.foldl_cons]
    have h : wst c lev (acc, true) x = (if (x.cat != c) = true then acc ++ [x] else acc, true) := by unfold wst; split <;> simp
    rw [h, wst_done c lev l, List.filter_cons]
    split <;> simp
theorem ins_gt {c lev : Int} {x : Pr} {l : List Pr} (h : x.cat > c) : insP c lev (x :: l) = ⟨c, lev⟩ :: x :: l.filter (fun y => y.cat != c) := by
  unfold insP; rw [if_pos (by simpa using h)]
theorem ins_is {c lev : Int} {x : Pr} {l : List Pr} (h : x.cat = c) : insP c lev (x :: l) = insP c lev l := by
  rw [insP, if_neg (by simp; omega), if_pos (by simpa using h)]
theorem ins_lt {c lev : Int} {x : Pr} {l : List Pr} (h1 : ¬ x.cat > c) (h2 : x.cat ≠ c) : insP c lev (x :: l) = x :: insP c lev l := by
  rw [insP, if_neg (by simpa using h1), if_neg (by simpa using h2)]
theorem wst_open (c lev : Int) : ∀ (l acc : List Pr), (if (l.foldl (wst c lev) (acc, false)).2 = true then (l.foldl (wst c lev) (acc, false)).1 else (l.foldl (wst c lev) (acc, false)).1 ++ [⟨c, lev⟩]) = acc ++ insP c lev l
  | [], acc => by simp [insP]
  | x :: l, acc => by
    rw [List.foldl_cons]
    by_cases h1 : x.cat > c
    · have hn : (x.cat != c) = true := by simp; omega
      have e : wst c lev (acc, false) x = (acc ++ [⟨c, lev⟩] ++ [x], true) := by unfold wst; rw [if_pos hn]; simp [h1]
      rw [e, wst_done, ins_gt h1, if_pos rfl]
      simp
    · by_cases h2 : x.cat = c
      · have e : wst c lev (acc, false) x = (acc, false) := by unfold wst; rw [if_neg (by simp [h2])]; simp [h1]
        rw [e, wst_open c lev l, ins_is h2]
      · have e : wst c lev (acc, false) x = (acc ++ [x], false) := by unfold wst; rw [if_pos (by simpa using h2)]; simp [h1]
        rw [e, wst_open c lev l, ins_lt h1 h2]
        simp
theorem withR_eq (l : List Pr) (c lev : Int) : q6r l c lev = if (lev == 2) = true then l.filter (fun y => y.cat != c) else insP c lev l := by
  unfold q6r q8e
  rw [List.take_length]
  cases h : (lev == 2) with
  | true => rw [wst_done]; simp
  | false => rw [wst_open]; simp
theorem q5c (x : Pr) (l : List Pr) (c : Int) : q2r (x :: l) c = if x.cat = c then x.lev else q2r l c := by
  unfold q2r
  rw [List.find?_cons]
  by_cases h : x.cat = c
  · have : (x.cat == c) = true := by simpa using h
    rw [this, if_pos h]
  · have : (x.cat == c) = false := by simpa using h
    rw [this, if_neg h]
theorem get_filt (c : Int) : ∀ (l : List Pr) (d : Int), q2r (l.filter (fun y => y.cat != c)) d = if d = c then 2 else q2r l d
  | [], d => by simp [q2r]
  | x :: l, d => by
    rw [List.filter_cons]
    by_cases h : x.cat = c
    · rw [if_neg (by simp [h]), get_filt c l d, q5c]
      by_cases hd : d = c
      · simp [hd]
      · rw [if_neg hd, if_neg hd, if_neg (by omega)]
    · rw [if_pos (by simpa using h), q5c, get_filt c l d, q5c]
      by_cases hd : d = c
      · rw [if_pos hd, if_pos hd, if_neg (by omega)]
      · rw [if_neg hd, if_neg hd]
theorem get_ins (c lev : Int) : ∀ (l : List Pr) (d : Int), q2r (insP c lev l) d = if d = c then lev else q2r l d
  | [], d => by
    unfold insP; rw [q5c]
    by_cases hd : d = c
    · rw [if_pos hd, if_pos hd.symm]
    · rw [if_neg hd, if_neg (fun h => hd h.symm)]
  | x :: l, d => by
    by_cases h1 : x.cat > c
    · rw [ins_gt h1, q5c, q5c, q5c, get_filt]
      simp only
      by_cases hd : d = c
      · rw [if_pos hd.symm, if_pos hd]
      · rw [if_neg (fun h => hd h.symm), if_neg hd, if_neg hd]
    · by_cases h2 : x.cat = c
      · rw [ins_is h2, get_ins c lev l d, q5c]
        by_cases hd : d = c
        · rw [if_pos hd, if_pos hd]
        · rw [if_neg hd, if_neg hd, if_neg (by omega)]
      · rw [ins_lt h1 h2, q5c, get_ins c lev l d, q5c]
        by_cases hd : d = c
        · rw [if_pos hd, if_pos hd, if_neg (by omega)]
        · rw [if_neg hd, if_neg hd]
theorem get_with (l : List Pr) (c lev d : Int) : q2r (q6r l c lev) d = if d = c then lev else q2r l d := by
  rw [withR_eq]
  by_cases h : lev = 2
  · rw [if_pos (by simpa using h), get_filt, h]
  · rw [if_neg (by simpa using h), get_ins]
def Ris (l : List Pr) : Prop := l.Pairwise (fun p q => p.cat < q.cat)
theorem ris_lab {l : List Pr} : SortedP (q2n l) ↔ Ris l := by unfold SortedP q2n Ris; rw [List.pairwise_map]
theorem ins_mem {c lev : Int} : ∀ {l : List Pr} {y : Pr}, y ∈ insP c lev l → y = ⟨c, lev⟩ ∨ y ∈ l
  | [], y, h => by unfold insP at h; simp at h; exact .inl h
  | x :: l, y, h => by
    unfold insP at h
    split at h
    · simp only [List.mem_cons, List.mem_filter] at h ⊢
      rcases h with h | h | h
      · exact .inl h
      · exact .inr (.inl h)
      · exact .inr (.inr h.1)
    · split at h
      · rcases ins_mem h with h | h
        · exact .inl h
        · exact .inr (List.mem_cons_of_mem _ h)
      · rcases List.mem_cons.1 h with h | h
        · exact .inr (by rw [h]; exact List.mem_cons_self)
        · rcases ins_mem h with h | h
          · exact .inl h
          · exact .inr (List.mem_cons_of_mem _ h)
theorem insP_ris {c lev : Int} : ∀ {l : List Pr}, Ris l → Ris (insP c lev l)
  | [], _ => by unfold insP Ris; exact List.pairwise_singleton _ _
  | x :: l, h => by
    have h' := List.pairwise_cons.1 h
    unfold insP
    split
    · rename_i h1
      have h1 : x.cat > c := by simpa using h1
      refine List.pairwise_cons.2 ⟨fun y hy => ?_, List.pairwise_cons.2 ⟨fun y hy => h'.1 y (List.mem_filter.1 hy).1, h'.2.filter _⟩⟩
      rcases List.mem_cons.1 hy with rfl | hy
      · exact h1
      · have := h'.1 y (List.mem_filter.1 hy).1
        show c < y.cat
        omega
    · rename_i h1
      have h1 : ¬ x.cat > c := by simpa using h1
      split
      · exact insP_ris h'.2
      · rename_i h2
        have h2 : x.cat ≠ c := by simpa using h2
        refine List.pairwise_cons.2 ⟨fun y hy => ?_, insP_ris h'.2⟩
        rcases ins_mem hy with rfl | hy
        · show x.cat < c; omega
        · exact h'.1 y hy
theorem q7w {l : List Pr} (h : FitL (q2n l)) : Ris l := ris_lab.1 h.sorted
theorem fit_lev {l : List Pr} (h : FitL (q2n l)) {x : Pr} (hx : x ∈ l) : 0 ≤ x.lev ∧ x.lev ≤ 5 ∧ x.lev ≠ 2 := h.lev (x.cat, x.lev) (List.mem_map.2 ⟨x, hx, rfl⟩)
theorem fit_mk {l : List Pr} (h : Ris l) (hl : ∀ x ∈ l, 0 ≤ x.lev ∧ x.lev ≤ 5 ∧ x.lev ≠ 2) : FitL (q2n l) := ⟨ris_lab.2 h, fun p hp => by obtain ⟨x, hx, rfl⟩ := List.mem_map.1 hp; exact hl x hx⟩
theorem fit_with {l : List Pr} {c lev : Int} (h : FitL (q2n l)) (h1 : 0 ≤ lev) (h2 : lev ≤ 5) : FitL (q2n (q6r l c lev)) := by
  rw [withR_eq]
  split
  · exact fit_mk ((q7w h).filter _) (fun x hx => fit_lev h (List.mem_filter.1 hx).1)
  · rename_i h3
    have h3 : lev ≠ 2 := by simpa using h3
    refine fit_mk (insP_ris (q7w h)) (fun x hx => ?_)
    rcases ins_mem hx with rfl | hx
    · exact ⟨h1, h2, h3⟩
    · exact fit_lev h hx
theorem fit_to {l : List Pr} (h : FitL (q2n l)) : q3k l = true := by
  have hr := q7w h
  refine q2m fun k hk => ?_
  obtain ⟨x, hx⟩ := q2f hk
  unfold q5z
  rw [hx]
  obtain ⟨h1, h2, h3⟩ := fit_lev h (List.mem_of_getElem? hx)
  have a1 : q5v x.lev = true := by unfold q5v; simp only [Bool.and_eq_true, decide_eq_true_eq]; omega
  have a2 : (x.lev == 2) = false := by simpa using h3
  simp only [a1, a2, Bool.not_false, Bool.true_and]
  cases k with
  | zero => rfl
  | succ j =>
    obtain ⟨y, hy⟩ := q2f (by omega : j < l.length)
    simp only [hy]
    have hj := List.getElem?_eq_some_iff.1 hy
    have hkk := List.getElem?_eq_some_iff.1 hx
    have := List.pairwise_iff_getElem.1 hr j (j + 1) hj.1 hkk.1 (by omega)
    rw [hj.2, hkk.2] at this
    simp only [Bool.not_eq_true', decide_eq_false_iff_not]
    omega
theorem x0x (F : Pr → Int) : ∀ (l out : List Pr) (c : Int), Ris l → q2r (l.foldl (fun out p => q6r out p.cat (F p)) out) c = match l.find? (fun p => p.cat == c) with | some p => F p | none => q2r out c
  | [], out, c, _ => rfl
  | x :: l, out, c, h => by
    have h' := List.pairwise_cons.1 h
    rw [List.foldl_cons, x0x F l _ c h'.2, List.find?_cons]
    by_cases hc : x.cat = c
    · have e1 : (x.cat == c) = true := by simpa using hc
      have e2 : l.find? (fun p => p.cat == c) = none := by
        rw [List.find?_eq_none]
        intro y hy
        have := h'.1 y hy
        simp; omega
      rw [e1, e2]
      simp only
      rw [get_with, if_pos hc.symm]
    · have e1 : (x.cat == c) = false := by simpa using hc
      rw [e1]
      simp only
      split
      · rfl
      · rw [get_with, if_neg (fun h => hc h.symm)]
theorem fold_fit (F : Pr → Int) : ∀ (l out : List Pr), FitL (q2n out) → (∀ p ∈ l, 0 ≤ F p ∧ F p ≤ 5) → FitL (q2n (l.foldl (fun out p => q6r out p.cat (F p)) out))
  | [], out, h, _ => h
  | x :: l, out, h, hF => by
    rw [List.foldl_cons]
    have := hF x List.mem_cons_self
    exact fold_fit F l _ (fit_with h this.1 this.2) (fun p hp => hF p (List.mem_cons_of_mem _ hp))
theorem get_find {l : List Pr} {c : Int} {p : Pr} (h : l.find? (fun p => p.cat == c) = some p) : p.cat = c ∧ q2r l c = p.lev := ⟨by simpa using List.find?_some h, by unfold q2r; rw [h]⟩
theorem q7j {l : List Pr} {c : Int} (h : l.find? (fun p => p.cat == c) = none) : q2r l c = 2 := by unfold q2r; rw [h]
theorem levOf_range (n : Int) : 0 ≤ q6t n ∧ q6t n ≤ 5 := by
  unfold q6t q5v; split
  · rename_i h; simp only [Bool.and_eq_true, decide_eq_true_eq] at h; omega
  · omega
theorem q7s (x y : Int) : 0 ≤ q3t x y ∧ q3t x y ≤ 5 := by
  have := levOf_range x; have := levOf_range y
  unfold q3t; split <;> omega
theorem x0v {l : List Pr} (h : FitL (q2n l)) (c : Int) : 0 ≤ q2r l c ∧ q2r l c ≤ 5 := by rw [← q6l]; exact q9d h c
theorem x0e {x y : Int} (hx : 0 ≤ x ∧ x ≤ 5) (hy : 0 ≤ y ∧ y ≤ 5) : q3t x y = max x y := by
  unfold q3t; rw [q7i hx, q7i hy]
  split
  · rename_i h; have := of_decide_eq_true h; omega
  · rename_i h; simp at h; omega
theorem x0s {a b : List Pr} (ha : FitL (q2n a)) : FitL (q2n (joinR a b)) := by
  unfold joinR q8p q7y
  exact fold_fit _ _ _ (fold_fit _ _ _ ha (fun p _ => q7s _ _)) (fun p _ => q7s _ _)
theorem joinR_get {a b : List Pr} (ha : FitL (q2n a)) (hb : FitL (q2n b)) (c : Int) : q2r (joinR a b) c = max (q2r a c) (q2r b c) := by
  unfold joinR q8p q7y
  rw [List.take_length, List.take_length, x0x (fun p => q3t (q2r a p.cat) p.lev) _ _ c (q7w hb)]
  have ra := x0v ha c
  have rb := x0v hb c
  cases hbf : b.find? (fun p => p.cat == c) with
  | some p =>
    obtain ⟨h1, h2⟩ := get_find hbf
    simp only
    rw [h1, ← h2, x0e ra rb]
  | none =>
    have h2 := q7j hbf
    simp only
    rw [x0x (fun p => q3t p.lev (q2r b p.cat)) _ _ c (q7w ha)]
    cases haf : a.find? (fun p => p.cat == c) with
    | some p =>
      obtain ⟨h3, h4⟩ := get_find haf
      simp only
      rw [h3, ← h4, x0e ra rb]
    | none =>
      have h4 := q7j haf
      simp only
      rw [h4, h2]; rfl
theorem joinNil_get {a : List Pr} (ha : FitL (q2n a)) (c : Int) : q2r (q5t a) c = max (q2r a c) 2 := by
  unfold q5t
  rw [x0x (fun p => q3t p.lev 2) _ _ c (q7w ha)]
  have ra := x0v ha c
  cases haf : a.find? (fun p => p.cat == c) with
  | some p =>
    obtain ⟨h3, h4⟩ := get_find haf
    simp only
    rw [← h4, x0e ra (by omega)]
  | none =>
    have h4 := q7j haf
    simp only
    rw [h4]; rfl
theorem joinNil_fit {a : List Pr} (ha : FitL (q2n a)) : FitL (q2n (q5t a)) := fold_fit _ _ _ ha (fun p _ => q7s _ _)
theorem join_labOf {a b : List Pr} (ha : FitL (q2n a)) (hb : FitL (q2n b)) : joinB (q2n a) (q2n b) = q2n (joinR a b) := by
  refine lab_ext (join_fit ha hb) (x0s ha) (fun c => ?_)
  rw [join_get ha hb, q6l, q6l, q6l, joinR_get ha hb]
theorem q9v {a : List Pr} (ha : q3k a = true) : q9n (q2n a) = q2n (a.map upPr) := by
  rw [← x0l ha]; exact (of_of _).symm
theorem q9r {a : List Pr} (ha : q3k a = true) : FitL (q2n (a.map upPr)) := by rw [← q9v ha]; exact raise_fit (fit_of ha)
theorem down_fit {a : List Pr} (ha : FitL (q2n a)) : FitL (q2n (a.map lowPr)) := by
  refine fit_mk ?_ (fun x hx => ?_)
  · unfold Ris; rw [List.pairwise_map]; exact q7w ha
  · obtain ⟨y, hy, rfl⟩ := List.mem_map.1 hx
    obtain ⟨h1, h2, h3⟩ := fit_lev ha hy
    show 0 ≤ q7a y.lev ∧ q7a y.lev ≤ 5 ∧ q7a y.lev ≠ 2
    unfold q7a; rw [q7i ⟨h1, h2⟩]; split <;> omega
theorem down_get (a : List Pr) (c : Int) : q2r (a.map lowPr) c = if a.any (fun p => p.cat == c) = true then q7a (q2r a c) else 2 := by
  induction a with
  | nil => rfl
  | cons x l ih =>
    rw [List.map_cons, q5c, q5c, List.any_cons, ih]
    show (if x.cat = c then q7a x.lev else _) = _
    by_cases h : x.cat = c
    · simp [h]
    · have : (x.cat == c) = false := by simpa using h
      rw [if_neg h, if_neg h, this, Bool.false_or]
theorem lower_labOf {a : List Pr} (ha : FitL (q2n a)) : lowerB (q2n a) = q2n (a.map lowPr) := by
  refine lab_ext (lower_fit ha) (down_fit ha) (fun c => ?_)
  rw [lower_get ha, q6l, q6l, down_get]
  have ra := x0v ha c
  cases h : a.any (fun p => p.cat == c) with
  | true =>
    rw [if_pos rfl]
    unfold q7a; rw [q7i ra]
    by_cases h5 : q2r a c = 5
    · rw [if_pos h5, if_pos (by rw [h5]; rfl)]
    · rw [if_neg h5, if_neg (by simpa using h5)]
  | false =>
    have e : a.find? (fun p => p.cat == c) = none := by
      rw [List.find?_eq_none]
      intro y hy hc
      rw [List.any_eq_false] at h
      exact h y hy hc
    rw [q7j e]; rfl
theorem leqB_eq {a b : List Pr} (ha : q3k a = true) (hb : q3k b = true) : leqB (q2n a) (q2n b) = leqR a b := leq_eq ha hb
theorem plain_eq (l : List Pr) : q5q (q2n l) = plainR l := by
  rw [Bool.eq_iff_iff]
  unfold q5q plainR q2n
  rw [List.all_map, List.all_eq_true, allB_iff]
  constructor
  · intro h k hk
    obtain ⟨x, hx⟩ := q2f hk
    have := h x (List.mem_of_getElem? hx)
    unfold q5k; rw [hx]; simpa using this
  · intro h x hx
    obtain ⟨k, hk⟩ := List.getElem?_of_mem hx
    have := h k (q3y hk)
    unfold q5k at this; rw [hk] at this; simpa using this
theorem enter_eq {t c g k n m : List Pr} (ht : q3k t = true) (hc : q3k c = true) (hg : q3k g = true) (hk : q3k k = true) (hn : q3k n = true) (hm : q3k m = true) : enterB t c g k n m = enterR t c g k n m := by
  unfold enterB enterR
  rw [plain_eq, plain_eq, leqB_eq ht hk, q9v ht, q9v hg, join_labOf (q9r ht) (q9r hg), lower_labOf (x0s (q9r ht)), leqB_eq (fit_to (down_fit (x0s (q9r ht)))) hn, leqB_eq hn hm, join_labOf (fit_of hc) (fit_of hk), leqB_eq hm (fit_to (x0s (fit_of hc)))]
theorem place_eq {d o : List Pr} (hd : q3k d = true) (ho : q3k o = true) : placeB d o = q6w d o := by
  have fx := joinNil_fit (q9r ho)
  have fd := fit_of hd
  unfold q6w
  rw [← leq_eq hd (fit_to fx), Bool.eq_iff_iff]
  unfold labLeq placeB
  rw [leqB_iff fd fx, allB_iff]
  have key : ∀ c, getL (q2n (q5t (o.map upPr))) c = max (q2r (q4l o) c) 2 := fun c => by rw [q6l, joinNil_get (q9r ho), x0l ho]
  constructor
  · intro h c
    rw [key, q6l]
    cases hf : d.find? (fun p => p.cat == c) with
    | none => rw [q7j hf]; omega
    | some p =>
      obtain ⟨h1, h2⟩ := get_find hf
      obtain ⟨k, hk⟩ := List.getElem?_of_mem (List.mem_of_find?_eq_some hf)
      have := h k (q3y hk)
      unfold plAt at this
      rw [hk] at this
      simp only [Bool.not_eq_true', decide_eq_false_iff_not] at this
      rw [h2]
      rw [h1] at this
      split at this <;> omega
  · intro h k hk
    obtain ⟨x, hx⟩ := q2f hk
    have := h x.cat
    rw [key, q6l] at this
    have hx2 : q2r d x.cat = x.lev := by rw [← q6l]; exact x0w fd.sorted (p := (_, _)) (List.mem_map.2 ⟨_, List.mem_of_getElem? hx, rfl⟩)
    unfold plAt
    rw [hx]
    simp only [Bool.not_eq_true', decide_eq_false_iff_not]
    rw [hx2] at this
    split <;> omega
end Go.Proofs.YtoibbedpaaeclaaGreat
end

section
namespace Go.Proofs.YtoibbedpaaeclaaGreat
open Go Go.RowKit
set_option linter.unusedVariables false
set_option linter.unusedSimpArgs false
set_option maxHeartbeats 16000000
set_option maxRecDepth 100000
attribute [local irreducible] q0i dr q0d Ex.then Ex.inBlock retQ q1l q2j q2g Pure CSat evOp q1i rdOf upd hset strip sp0 cut envL q1g q3q Keep BdL evBs q2s q3c
theorem chk_place (d o : List Pr) (hd : d.length ≤ 1000) (ho : o.length ≤ 1000) (hs : Sorted (q2n (q4l o))) (hl : (q4l o).length ≤ 1000) : Pure Tryz.prog 231 [.sl (d.map Pr.enc), .sl (o.map Pr.enc)] (.bool (placeB d o)) := by
  have hr := x0d o (by omega)
  have hgt := fun c => label_get (q4l o) c hs (by omega)
  simp only [q6l] at hgt
  refine q2d (by kernel_rfl) (by simp only [go_sem, *]) (by simp only [go_sem, *]) Tryz.func231 Tryz.results231 rfl (by simp [Tryz.ntmps231]) (by kernel_rfl) ?_
  repeat' (first | (show q0i ..; first | refine q0c ?_ | refine q0e rfl ?_) | (show q0k ..; refine q0f rfl rfl ?_) | (show goOn ..; refine q0g ?_) | (show q0d ..; first | refine q0h ?_ | refine q0b ?_ | refine q0n ?_) | refine q0a ?_)
  refine q2q (S := Nat) (fun n => d.length - n) (fun n => n ≤ d.length ∧ ∀ j, j < n → plAt d o j = true) (fun n => [(1, .sl (o.map Pr.enc)), (8, .sl (d.map Pr.enc)), (9, .int .i64 d.length), (10, .int .i64 n)]) (fun _ => []) (fun _ => 0) 0 ⟨Nat.zero_le _, fun j hj => absurd hj (Nat.not_lt_zero j)⟩ (by (refine q1n ?_ ?_ <;> repeat' (first | exact q0v | exact q0y | refine q0p (by (try simp only [go_sem, *]); try rfl) (by simp only [go_sem, *]) ?_ | refine q0z (by (try simp only [go_sem, *]); try rfl) (by omega) (by simp only [go_sem, *]) ?_ | refine q0x (by (try simp only [go_sem, *]); try rfl) (by omega) (by simp only [go_sem, *]) ?_))) ?_
  rintro n ⟨hn, hs⟩
  rcases Nat.lt_or_ge n d.length with hlt | hge
  · obtain ⟨x, hx⟩ := q2f hlt
    have h0 := q2k hlt
    have h4 := q2e n (by omega)
    have e : plAt d o n = !decide (x.lev > if 2 > q2r (q4l o) x.cat then 2 else q2r (q4l o) x.cat) := by unfold plAt; rw [hx]
    repeat' (first | (show q0i ..; first | refine q0c ?_ | refine q0e rfl ?_) | (show q0k ..; refine q0f rfl rfl ?_) | (show goOn ..; first | refine q0g ?_ | refine q1d ?_ | refine q1x ?_) | (show q3f ..; refine q1h ?_) | (show dr ..; first | refine q1y ?_ | refine dr_n rfl ?_) | (show drGo ..; first | refine q3b rfl ?_ | refine q2l rfl ?_) | (show drOn ..; refine q1z ?_) | (show q2h ..; (refine q1f (r := ?_) ?_ ?_; rotate_left 1; (focus first | exact hr | exact hgt _))) | (refine And.intro (by kernel_rfl : q1l _ = true) ?_) | (show q0d ..; first | refine q0h ?_ | refine q0b ?_ | refine q1k (by kernel_rfl) ?_ | refine q0r ?_ | refine q0q ?_ | refine q0n ?_ | refine q0j ?_) | (show q0o ..; first | refine cd_t ?_ | refine cd_b (fun _ => ?_) (fun _ => ?_)) | refine q0a ?_ | refine q1v ?_ | refine q0t ?_ | refine q3m ?_ | (show retQ ..; refine q0s ?_) | refine q0l ?_)
    all_goals rename_i hc
    · exact q1o (q2o hlt (f := plAt d o) (by rw [e, hc]; rfl)).symm
    · exact again (n + 1) ⟨by omega, q5d hs (by rw [e, hc]; rfl)⟩ (by omega) (by (refine q1n ?_ ?_ <;> repeat' (first | exact q0v | exact q0y | refine q0p (by (try simp only [go_sem, *]); try rfl) (by simp only [go_sem, *]) ?_ | refine q0z (by (try simp only [go_sem, *]); try rfl) (by omega) (by simp only [go_sem, *]) ?_ | refine q0x (by (try simp only [go_sem, *]); try rfl) (by omega) (by simp only [go_sem, *]) ?_)))
  · have h0 := q1w hge
    repeat' (first | (show q0i ..; first | refine q0c ?_ | refine q0e rfl ?_) | (show q0k ..; refine q0f rfl rfl ?_) | (show goOn ..; refine q0g ?_) | (show q0d ..; first | refine q0h ?_ | refine q0b ?_ | refine q0r ?_ | refine q1q ?_ | refine q0j ?_) | (show q0o ..; refine cd_f ?_) | refine q0a ?_ | refine q1p ?_ | refine q1r ?_ | (show retQ ..; refine q0s ?_) | refine q0l ?_)
    exact q1o (q2m fun j hj => hs j (by omega)).symm
end Go.Proofs.YtoibbedpaaeclaaGreat
end

section
namespace Go.Proofs.YtoibbedpaaeclaaGreat
open Go Go.RowKit
set_option linter.unusedVariables false
set_option linter.unusedSimpArgs false
set_option maxHeartbeats 16000000
set_option maxRecDepth 100000
noncomputable def fewS (w : Wd) : Bool := !decide ((w.objects.length : Int) > 24) && (allB w.objects.length (fewAt w.objects) && fitW w)
theorem fewS_f {w : Wd} (h1 : decide ((w.objects.length : Int) > 24) = false) (h2 : allB w.objects.length (fewAt w.objects) = true) : FewW w := by
  have h1 := of_decide_eq_false h1
  refine ⟨by omega, fun x hx => ?_⟩
  obtain ⟨k, hk⟩ := List.getElem?_of_mem hx
  have := allB_iff.1 h2 k (q3y hk)
  unfold fewAt at this
  rw [hk] at this
  simp only [Bool.not_eq_true', Bool.or_eq_false_iff, decide_eq_false_iff_not] at this
  omega
theorem fewS_of {w : Wd} (h : fewS w = true) : FewW w ∧ fitW w = true := by
  unfold fewS at h
  simp only [Bool.and_eq_true, Bool.not_eq_true'] at h
  exact ⟨fewS_f h.1 h.2.1, h.2.2⟩
def isThr (w : Wd) (id : Int) : Bool := (q2p w id).2 && ((q2p w id).1.kind == 4)
attribute [local irreducible] q0i dr q0d Ex.then Ex.inBlock retQ q1l q2j q2g Pure CSat evOp q1i rdOf upd hset strip sp0 cut envL q1g q3q Keep BdL evBs q2s q3c
theorem law19_few (w : Wd) (hl : w.objects.length ≤ 9223372036854775807) (ho : ∀ x ∈ w.objects, x.L) : Pure Tryz.prog 32 [.agg (Wd.enc w)] (.bool (fewS w)) := by
  cases h1 : decide ((w.objects.length : Int) > 24) with
  | true =>
    refine q2d (by kernel_rfl) (by simp only [go_sem, *]) (by simp only [go_sem, *]) Tryz.func32 Tryz.results32 rfl (by simp [Tryz.ntmps32]) (by kernel_rfl) ?_
    repeat' (first | (show q0i ..; first | refine q0c ?_ | refine q0e rfl ?_) | (show q0k ..; refine q0f rfl rfl ?_) | (show goOn ..; first | refine q0g ?_ | refine q1d ?_) | (show q0d ..; first | refine q0h ?_ | refine q0b ?_ | refine q0r ?_ | refine q0j ?_) | (show q0o ..; refine cd_t ?_) | refine q0a ?_ | refine q1v ?_ | (show retQ ..; refine q0s ?_) | refine q0l ?_)
    all_goals (refine q1o ?_; unfold fewS; rw [h1]; rfl)
  | false =>
  have h1' := of_decide_eq_false h1
  have fin : ∀ b, (allB w.objects.length (fewAt w.objects) && fitW w) = b → b = fewS w := fun b hb => by unfold fewS; rw [h1, hb]; rfl
  refine q2d (by kernel_rfl) (by simp only [go_sem, *]) (by simp only [go_sem, *]) Tryz.func32 Tryz.results32 rfl (by simp [Tryz.ntmps32]) (by kernel_rfl) ?_
  repeat' (first | (show q0i ..; first | refine q0c ?_ | refine q0e rfl ?_) | (show q0k ..; refine q0f rfl rfl ?_) | (show goOn ..; first | refine q0g ?_ | refine q1d ?_) | (show q0d ..; first | refine q0h ?_ | refine q0b ?_ | refine q0q ?_ | refine q0n ?_ | refine q0j ?_) | (show q0o ..; refine cd_f ?_) | refine q0a ?_)
  refine q2q (S := Nat) (fun n => w.objects.length - n) (fun n => n ≤ w.objects.length ∧ ∀ j, j < n → fewAt w.objects j = true) (fun n => [(1, .ptr 0 0), (10, .sl (w.objects.map Ob.enc)), (11, .int .i64 w.objects.length), (12, .int .i64 n)]) (fun _ => [(0, .box (Wd.enc w))]) (fun _ => 1) 0 ⟨Nat.zero_le _, fun j hj => absurd hj (Nat.not_lt_zero j)⟩ (by (refine q1n ?_ ?_ <;> repeat' (first | exact q0v | exact q0y | refine q0p (by (try simp only [go_sem, *]); try rfl) (by simp only [go_sem, *]) ?_ | refine q0z (by (try simp only [go_sem, *]); try rfl) (by omega) (by simp only [go_sem, *]) ?_ | refine q0x (by (try simp only [go_sem, *]); try rfl) (by omega) (by simp only [go_sem, *]) ?_))) ?_
  rintro n ⟨hn, hs⟩
  rcases Nat.lt_or_ge n w.objects.length with hlt | hge
  · obtain ⟨x, hx⟩ := q2f hlt
    have h0 := q2k hlt
    have h4 := q2e n (by omega)
    have e : fewAt w.objects n = !(decide ((x.label.length : Int) > 20) || (decide ((x.links.length : Int) > 70) || (decide ((x.data.length : Int) > 300) || decide ((x.maps.length : Int) > 20)))) := by unfold fewAt; rw [hx]
    repeat' (first | (show q0i ..; first | refine q0c ?_ | refine q0e rfl ?_ | refine q1b rfl rfl ?_) | (show q0k ..; refine q0f rfl rfl ?_) | (show goOn ..; first | refine q0g ?_ | refine q1d ?_ | refine q1x ?_) | (show q3f ..; refine q1h ?_) | (show wGo ..; first | refine q4e ?_ | refine q5b ?_ | refine gw_fb (fun _ => ?_) (fun _ => ?_)) | (show q0d ..; first | refine q0h ?_ | refine q0b ?_ | refine q0r ?_ | refine q0q ?_ | refine q0n ?_ | refine q0j ?_) | (show q0o ..; first | refine cd_t ?_ | refine cd_b (fun _ => ?_) (fun _ => ?_)) | refine q0a ?_ | refine q1v ?_ | refine q0t ?_ | refine q3m ?_ | (show retQ ..; refine q0s ?_) | refine q0l ?_)
    all_goals first
      | (refine q1o (fin _ ?_); rw [q2o hlt (by rw [e]; simp only [*, Bool.not_true, Bool.not_false, Bool.and_true, Bool.true_and, Bool.and_false, Bool.false_and, Bool.or_true, Bool.true_or, Bool.or_false, Bool.false_or, Bool.and_self, Bool.or_self, decide_true, decide_false, Bool.not_not, if_true, if_false, Bool.false_eq_true, eq_self])]; rfl)
      | (refine again (n + 1) ⟨hlt, q5d hs ?_⟩ (show w.objects.length - (n + 1) < w.objects.length - n by omega) (by (refine q1n ?_ ?_ <;> repeat' (first | exact q0v | exact q0y | refine q0p (by (try simp only [go_sem, *]); try rfl) (by simp only [go_sem, *]) ?_ | refine q0z (by (try simp only [go_sem, *]); try rfl) (by omega) (by simp only [go_sem, *]) ?_ | refine q0x (by (try simp only [go_sem, *]); try rfl) (by omega) (by simp only [go_sem, *]) ?_))); rw [e]; simp only [*, Bool.not_true, Bool.not_false, Bool.and_true, Bool.true_and, Bool.and_false, Bool.false_and, Bool.or_true, Bool.true_or, Bool.or_false, Bool.false_or, Bool.and_self, Bool.or_self, decide_true, decide_false, Bool.not_not, if_true, if_false, Bool.false_eq_true, eq_self]; done)
  · have h0 := q1w hge
    have hall : allB w.objects.length (fewAt w.objects) = true := q2m fun j hj => hs j (by omega)
    have hfew := fewS_f h1 hall
    have hft := r14_fit w ⟨hl, fun x hx => ⟨ho x hx, by have := (hfew.ob x hx).1; omega⟩⟩ hfew
    clear ho
    have hfin := fin (fitW w) (by rw [hall]; rfl)
    clear fin
    repeat' (first | (show q0i ..; first | refine q0c ?_ | refine q0e rfl ?_) | (show q0k ..; first | refine q0f rfl rfl ?_ | refine q0m rfl ?_) | (show goOn ..; refine q0g ?_) | (show q1j ..; (refine q0u (r := ?_) ?_ ?_; rotate_left 1; (focus exact hft))) | (show q0d ..; first | refine q0h ?_ | refine q0b ?_ | refine q0r ?_ | refine q1q ?_ | refine q0j ?_) | (show q0o ..; refine cd_f ?_) | refine q0a ?_ | refine q1p ?_ | refine q1r ?_ | (show retQ ..; refine q0s ?_) | refine q0l ?_)
    all_goals first | rfl | (refine q1o ?_; first | exact hfin | exact hfin.symm) | (rw [hfin]) | (rw [← hfin])
theorem law23_few (w : Wd) (hl : w.objects.length ≤ 9223372036854775807) (ho : ∀ x ∈ w.objects, x.L) : Pure Tryz.prog 23 [.agg (Wd.enc w)] (.bool (fewS w)) := by
  cases h1 : decide ((w.objects.length : Int) > 24) with
  | true =>
    refine q2d (by kernel_rfl) (by simp only [go_sem, *]) (by simp only [go_sem, *]) Tryz.func23 Tryz.results23 rfl (by simp [Tryz.ntmps23]) (by kernel_rfl) ?_
    repeat' (first | (show q0i ..; first | refine q0c ?_ | refine q0e rfl ?_) | (show q0k ..; refine q0f rfl rfl ?_) | (show goOn ..; first | refine q0g ?_ | refine q1d ?_) | (show q0d ..; first | refine q0h ?_ | refine q0b ?_ | refine q0r ?_ | refine q0j ?_) | (show q0o ..; refine cd_t ?_) | refine q0a ?_ | refine q1v ?_ | (show retQ ..; refine q0s ?_) | refine q0l ?_)
    all_goals (refine q1o ?_; unfold fewS; rw [h1]; rfl)
  | false =>
  have h1' := of_decide_eq_false h1
  have fin : ∀ b, (allB w.objects.length (fewAt w.objects) && fitW w) = b → b = fewS w := fun b hb => by unfold fewS; rw [h1, hb]; rfl
  refine q2d (by kernel_rfl) (by simp only [go_sem, *]) (by simp only [go_sem, *]) Tryz.func23 Tryz.results23 rfl (by simp [Tryz.ntmps23]) (by kernel_rfl) ?_
  repeat' (first | (show q0i ..; first | refine q0c ?_ | refine q0e rfl ?_) | (show q0k ..; refine q0f rfl rfl ?_) | (show goOn ..; first | refine q0g ?_ | refine q1d ?_) | (show q0d ..; first | refine q0h ?_ | refine q0b ?_ | refine q0q ?_ | refine q0n ?_ | refine q0j ?_) | (show q0o ..; refine cd_f ?_) | refine q0a ?_)
  refine q2q (S := Nat) (fun n => w.objects.length - n) (fun n => n ≤ w.objects.length ∧ ∀ j, j < n → fewAt w.objects j = true) (fun n => [(1, .ptr 0 0), (10, .sl (w.objects.map Ob.enc)), (11, .int .i64 w.objects.length), (12, .int .i64 n)]) (fun _ => [(0, .box (Wd.enc w))]) (fun _ => 1) 0 ⟨Nat.zero_le _, fun j hj => absurd hj (Nat.not_lt_zero j)⟩ (by (refine q1n ?_ ?_ <;> repeat' (first | exact q0v | exact q0y | refine q0p (by (try simp only [go_sem, *]); try rfl) (by simp only [go_sem, *]) ?_ | refine q0z (by (try simp only [go_sem, *]); try rfl) (by omega) (by simp only [go_sem, *]) ?_ | refine q0x (by (try simp only [go_sem, *]); try rfl) (by omega) (by simp only [go_sem, *]) ?_))) ?_
  rintro n ⟨hn, hs⟩
  rcases Nat.lt_or_ge n w.objects.length with hlt | hge
  · obtain ⟨x, hx⟩ := q2f hlt
    have h0 := q2k hlt
    have h4 := q2e n (by omega)
    have e : fewAt w.objects n = !(decide ((x.label.length : Int) > 20) || (decide ((x.links.length : Int) > 70) || (decide ((x.data.length : Int) > 300) || decide ((x.maps.length : Int) > 20)))) := by unfold fewAt; rw [hx]
    repeat' (first | (show q0i ..; first | refine q0c ?_ | refine q0e rfl ?_ | refine q1b rfl rfl ?_) | (show q0k ..; refine q0f rfl rfl ?_) | (show goOn ..; first | refine q0g ?_ | refine q1d ?_ | refine q1x ?_) | (show q3f ..; refine q1h ?_) | (show wGo ..; first | refine q4e ?_ | refine q5b ?_ | refine gw_fb (fun _ => ?_) (fun _ => ?_)) | (show q0d ..; first | refine q0h ?_ | refine q0b ?_ | refine q0r ?_ | refine q0q ?_ | refine q0n ?_ | refine q0j ?_) | (show q0o ..; first | refine cd_t ?_ | refine cd_b (fun _ => ?_) (fun _ => ?_)) | refine q0a ?_ | refine q1v ?_ | refine q0t ?_ | refine q3m ?_ | (show retQ ..; refine q0s ?_) | refine q0l ?_)
    all_goals first
      | (refine q1o (fin _ ?_); rw [q2o hlt (by rw [e]; simp only [*, Bool.not_true, Bool.not_false, Bool.and_true, Bool.true_and, Bool.and_false, Bool.false_and, Bool.or_true, Bool.true_or, Bool.or_false, Bool.false_or, Bool.and_self, Bool.or_self, decide_true, decide_false, Bool.not_not, if_true, if_false, Bool.false_eq_true, eq_self])]; rfl)
      | (refine again (n + 1) ⟨hlt, q5d hs ?_⟩ (show w.objects.length - (n + 1) < w.objects.length - n by omega) (by (refine q1n ?_ ?_ <;> repeat' (first | exact q0v | exact q0y | refine q0p (by (try simp only [go_sem, *]); try rfl) (by simp only [go_sem, *]) ?_ | refine q0z (by (try simp only [go_sem, *]); try rfl) (by omega) (by simp only [go_sem, *]) ?_ | refine q0x (by (try simp only [go_sem, *]); try rfl) (by omega) (by simp only [go_sem, *]) ?_))); rw [e]; simp only [*, Bool.not_true, Bool.not_false, Bool.and_true, Bool.true_and, Bool.and_false, Bool.false_and, Bool.or_true, Bool.true_or, Bool.or_false, Bool.false_or, Bool.and_self, Bool.or_self, decide_true, decide_false, Bool.not_not, if_true, if_false, Bool.false_eq_true, eq_self]; done)
  · have h0 := q1w hge
    have hall : allB w.objects.length (fewAt w.objects) = true := q2m fun j hj => hs j (by omega)
    have hfew := fewS_f h1 hall
    have hft := r14_fit w ⟨hl, fun x hx => ⟨ho x hx, by have := (hfew.ob x hx).1; omega⟩⟩ hfew
    clear ho
    have hfin := fin (fitW w) (by rw [hall]; rfl)
    clear fin
    repeat' (first | (show q0i ..; first | refine q0c ?_ | refine q0e rfl ?_) | (show q0k ..; first | refine q0f rfl rfl ?_ | refine q0m rfl ?_) | (show goOn ..; refine q0g ?_) | (show q1j ..; (refine q0u (r := ?_) ?_ ?_; rotate_left 1; (focus exact hft))) | (show q0d ..; first | refine q0h ?_ | refine q0b ?_ | refine q0r ?_ | refine q1q ?_ | refine q0j ?_) | (show q0o ..; refine cd_f ?_) | refine q0a ?_ | refine q1p ?_ | refine q1r ?_ | (show retQ ..; refine q0s ?_) | refine q0l ?_)
    all_goals first | rfl | (refine q1o ?_; first | exact hfin | exact hfin.symm) | (rw [hfin]) | (rw [← hfin])
theorem law23_thread (w : Wd) (id : Int) (hl : w.objects.length ≤ 1000000) : Pure Tryz.prog 24 [.agg (Wd.enc w), .int .u64 id] (.bool (isThr w id)) := by
  have h1 := q5y w id hl
  unfold isThr
  generalize q2p w id = F at h1 ⊢
  obtain ⟨o, b⟩ := F
  simp only at h1 ⊢
  cases b with
  | false =>
    refine q2d (by kernel_rfl) (by simp only [go_sem, *]) (by simp only [go_sem, *]) Tryz.func24 Tryz.results24 rfl (by simp [Tryz.ntmps24]) (by kernel_rfl) ?_
    repeat' (first | (show q0i ..; first | refine q0c ?_ | refine q0e rfl ?_ | refine q1b rfl rfl ?_) | (show q0k ..; first | refine q0f rfl rfl ?_ | refine q0m rfl ?_) | (show goOn ..; first | refine q0g ?_ | refine q1d ?_ | refine q1x ?_) | (show q3f ..; refine q1h ?_) | (show q1j ..; (refine q0u (r := ?_) ?_ ?_; rotate_left 1; (focus exact h1))) | (show wGo ..; refine q3x ?_) | (show q0d ..; first | refine q0h ?_ | refine q0b ?_ | refine q0r ?_) | refine q0a ?_ | (show retQ ..; refine q0s ?_) | refine q0l ?_)
    all_goals rfl
  | true =>
    refine q2d (by kernel_rfl) (by simp only [go_sem, *]) (by simp only [go_sem, *]) Tryz.func24 Tryz.results24 rfl (by simp [Tryz.ntmps24]) (by kernel_rfl) ?_
    repeat' (first | (show q0i ..; first | refine q0c ?_ | refine q0e rfl ?_ | refine q1b rfl rfl ?_) | (show q0k ..; first | refine q0f rfl rfl ?_ | refine q0m rfl ?_) | (show goOn ..; first | refine q0g ?_ | refine q1d ?_ | refine q1x ?_) | (show q3f ..; refine q1h ?_) | (show q1j ..; (refine q0u (r := ?_) ?_ ?_; rotate_left 1; (focus exact h1))) | (show wGo ..; refine q3n ?_) | (show q0d ..; first | refine q0h ?_ | refine q0b ?_ | refine q0r ?_) | refine q0a ?_ | (show retQ ..; refine q0s ?_) | refine q0l ?_)
    all_goals rfl
end Go.Proofs.YtoibbedpaaeclaaGreat
end

section
namespace Go.Proofs.YtoibbedpaaeclaaGreat
open Go Go.RowKit
set_option linter.unusedVariables false
set_option linter.unusedSimpArgs false
set_option maxHeartbeats 4000000
structure Thr (o : Ob) : Prop where
  lab : kept o.label = true
  fit : q8b o.label o.thread = true
  fixed : o.fixed = false
  links : o.links = []
  data : o.data = []
  maps : o.maps = []
theorem thr_of {o : Ob} (hs : sound o = true) (hk : o.kind = 4) : Thr o := by
  have k1 : (o.kind == 1) = false := by rw [hk]; rfl
  have k2 : (o.kind == 2) = false := by rw [hk]; rfl
  have k3 : (o.kind == 3) = false := by rw [hk]; rfl
  have k4 : (o.kind == 4) = true := by rw [hk]; rfl
  have e : q6q o = { Ob.zero with id := o.id, kind := o.kind, label := o.label, quota := o.quota, fixed := o.fixed, thread := o.thread } := by
    unfold q6q; rw [k1, k2, k3, k4]; rfl
  have ei : inner o = (q8b o.label o.thread && !o.fixed) := by unfold inner; rw [k1, k2, k3, k4]; rfl
  unfold sound q6h at hs
  rw [e, ei] at hs
  simp only [q8j, Bool.and_eq_true, Bool.not_eq_true', decide_eq_true_eq] at hs
  obtain ⟨⟨_, _, _, h1, _, _, _, h2, h3, h4, _⟩, _, h5, h6⟩ := hs
  exact ⟨h1, h5, h6, h2.symm, h3.symm, h4.symm⟩
theorem thr_mk {o : Ob} (hs : sound o = true) (hk : o.kind = 4) {l : List Pr} {th : Th} (h1 : kept l = true) (h2 : q8b l th = true) : sound { o with label := l, thread := th } = true := by
  have k1 : (o.kind == 1) = false := by rw [hk]; rfl
  have k2 : (o.kind == 2) = false := by rw [hk]; rfl
  have k3 : (o.kind == 3) = false := by rw [hk]; rfl
  have k4 : (o.kind == 4) = true := by rw [hk]; rfl
  have e : q6q o = { Ob.zero with id := o.id, kind := o.kind, label := o.label, quota := o.quota, fixed := o.fixed, thread := o.thread } := by
    unfold q6q; rw [k1, k2, k3, k4]; rfl
  have ei : inner o = (q8b o.label o.thread && !o.fixed) := by unfold inner; rw [k1, k2, k3, k4]; rfl
  have e' : q6q { o with label := l, thread := th } = { Ob.zero with id := o.id, kind := o.kind, label := l, quota := o.quota, fixed := o.fixed, thread := th } := by
    unfold q6q; simp only [k1, k2, k3, k4, if_true, if_false, Bool.false_eq_true]
  have ei' : inner { o with label := l, thread := th } = (q8b l th && !o.fixed) := by unfold inner; simp only [k1, k2, k3, k4, if_true, if_false, Bool.false_eq_true]
  unfold sound q6h at hs ⊢
  rw [e, ei] at hs
  rw [e', ei']
  simp only [q8j, Bool.and_eq_true, Bool.not_eq_true', decide_eq_true_eq, k4, h1, h2, true_and, and_true, Bool.true_or, sameTh_refl, beq_self_eq_true] at hs ⊢
  obtain ⟨⟨a1, a2, a3, a4, a5, a6, a7, a8, a9, b1, b2, b3⟩, a10, a11⟩ := hs
  exact ⟨⟨a1, a2, a3, a5, a6, a7, a8, a9, b1, b2, b3⟩, a11⟩
theorem ins_mem' {w : Wd} {o p y : Ob} (hr : RisO w.objects) (ho : o ∈ w.objects) (hid : p.id = o.id) (hy : y ∈ (w.ins p).objects) : y = p ∨ y ∈ w.objects := by
  rw [show (w.ins p).objects = w.objects.map fun x => if x.id = o.id then p else x from insR_map hr ho hid] at hy
  obtain ⟨z, hz, rfl⟩ := List.mem_map.1 hy
  split
  · exact .inl rfl
  · exact .inr hz
theorem few_ins {w : Wd} {o p : Ob} (hf : FewW w) (hr : RisO w.objects) (ho : o ∈ w.objects) (hid : p.id = o.id) (h1 : p.label.length ≤ 20) (h2 : p.links.length ≤ 70) (h3 : p.data.length ≤ 300) (h4 : p.maps.length ≤ 20) : FewW (w.ins p) := by
  refine ⟨?_, fun y hy => ?_⟩
  · rw [show (w.ins p).objects = w.objects.map fun x => if x.id = o.id then p else x from insR_map hr ho hid, List.length_map]; exact hf.n
  · rcases ins_mem' hr ho hid hy with rfl | hy
    · exact ⟨h1, h2, h3, h4⟩
    · exact hf.ob y hy
theorem thr_good {w : Wd} (g : Good w) {o : Ob} (ho : o ∈ w.objects) (hk : o.kind = 4) {l : List Pr} {th : Th} (h1 : kept l = true) (h2 : q8b l th = true) (hsp : th.span = o.thread.span) (hL : th.L) (hpl : ∀ d ∈ w.objects, o.id ∈ d.links → q6w d.label l = true) :
    Good (w.ins { o with label := l, thread := th }) := by
  have hwd := q7z g.fit
  have hs := q6n hwd ho
  have ht := thr_of hs hk
  have hr := (q5n hwd).1
  obtain ⟨l1, l2, l3, l4, l5, l6, l7, l8⟩ := (g.L.2 o ho).1
  have hln := q4m h1
  have hl2 : l.length ≤ maxLen := Nat.le_trans hln (by decide)
  refine ⟨ins_L g.L ⟨hl2, l2, l3, l4, hL, l6, l7, l8⟩ (by show l.length ≤ _; omega) (by have := g.few.n; omega), few_ins g.few hr ho rfl (by show l.length ≤ 20; omega) (by show o.links.length ≤ 70; rw [ht.links]; decide) (by show o.data.length ≤ 300; rw [ht.data]; decide) (by show o.maps.length ≤ 20; rw [ht.maps]; decide), ?_⟩
  exact lab_fit g.fit ho (by unfold hl; simp only [hsp]) ht.links (thr_mk hs hk h1 h2) hpl
theorem find_self {w : Wd} (hr : RisO w.objects) {o : Ob} (ho : o ∈ w.objects) (hp : 1 ≤ o.id) : q2p w o.id = (o, true) := by
  have := fnd_mem hr ho
  unfold fnd at this
  unfold q2p
  rw [this]
theorem find_p {w : Wd} (hf : FewW w) (hw : fitW w = true) (id : Int) : Pure Tryz.prog 60 [.agg (Wd.enc w), .int .u64 id] (.tup [.agg (Ob.enc (q2p w id).1), .bool (q2p w id).2]) := by
  have := obj_find w id (by have := hf.n; omega) (q5n (q7z hw)).1
  rw [findO_eq (q5n (q7z hw)).1] at this
  exact this
theorem find_lab {w : Wd} (hf : FewW w) (hw : fitW w = true) (id : Int) : q3k (q2p w id).1.label = true := (okay_fit (x0q hf (q7z hw) id)).2
theorem place_p {w : Wd} (g : Good w) (x : Int) {l : List Pr} (hl : q3k l = true) (hll : l.length ≤ 16) : Pure Tryz.prog 231 [.sl ((q2p w x).1.label.map Pr.enc), .sl (l.map Pr.enc)] (.bool (q6w (q2p w x).1.label l)) := by
  rw [← place_eq (find_lab g.few g.fit x) hl]
  have e := x0l hl
  exact chk_place _ _ (by have := q6o g.few x; omega) (by omega) (sorted_iff.2 (by rw [e]; exact (q9r hl).sorted)) (by rw [e, List.length_map]; omega)
/-- May a thread have a label where it lies? -/
def liesAt (w : Wd) (id : Int) (l : List Pr) (k : Nat) : Bool := match (q2w w id)[k]? with
  | some d => q6w (q2p w d).1.label l
  | none => true
def liesR (w : Wd) (id : Int) (l : List Pr) : Bool := allB (q2w w id).length (liesAt w id l)
theorem lies_ok {w : Wd} (g : Good w) {id : Int} {l : List Pr} (h : liesR w id l = true) : ∀ d ∈ w.objects, id ∈ d.links → q6w d.label l = true := by
  intro d hd hi
  have hwd := q7z g.fit
  have hr := (q5n hwd).1
  have : d.id ∈ q2w w id := List.mem_map.2 ⟨d, List.mem_filter.2 ⟨hd, List.any_eq_true.2 ⟨id, hi, by simp⟩⟩, rfl⟩
  obtain ⟨k, hk⟩ := List.getElem?_of_mem this
  have h1 := allB_iff.1 h k (q3y hk)
  unfold liesAt at h1
  rw [hk] at h1
  simp only at h1
  rw [find_self hr hd (sound_pos (q6n hwd hd))] at h1
  exact h1
end Go.Proofs.YtoibbedpaaeclaaGreat
end

section
namespace Go.Proofs.YtoibbedpaaeclaaGreat.kgate
open Go Go.RowKit Go.Proofs.YtoibbedpaaeclaaGreat
set_option linter.unusedVariables false
set_option linter.unusedSimpArgs false
set_option maxHeartbeats 4000000
def gone (t : Ob) (l c : List Pr) (g : Gt) (x : Int) : Ob := { t with label := l, thread := { t.thread with regs := fun i => if i = 3 then x else t.thread.regs i, pc := g.pc, clear := c, space := g.space } }
noncomputable def q6m (w : Wd) (t : Ob) (a : Nat → Int) : Ob × Int := seeR w t ⟨a 0, a 1⟩ 5
def la (t : Ob) (a : Nat → Int) (k : Nat) : List Pr := t.thread.labs (a k).toNat
noncomputable def mayR (w : Wd) (t : Ob) (a : Nat → Int) : Bool := enterR t.label t.thread.clear (q6m w t a).1.gate.grant (q6m w t a).1.gate.clear (la t a 2) (la t a 3) && liesR w t.id (la t a 2)
noncomputable def q5s (w : Wd) (t : Ob) (a : Nat → Int) : Wd × Int × Int × Bool :=
  if (decide (a 2 < 4) && decide (a 3 < 4)) = true then
    if ((q6m w t a).2 == 0) = true then
      if mayR w t a = true then (w.ins (gone t (la t a 2) (la t a 3) (q6m w t a).1.gate (a 4)), (q6m w t a).1.gate.arg, 0, true) else (w, 0, 2, true)
    else (w, 0, (q6m w t a).2, true)
  else (w, 0, 4, true)
noncomputable def q4x (w : Wd) (t : Ob) (n : Int) (a : Nat → Int) : Wd × Int × Int × Bool :=
  if (n == 40) = true then q5s w t a else (w, 0, 0, false)
theorem enter_err (w : Wd) (t : Ob) (a : Nat → Int) : ((q5s w t a).2.2.1 == 0) = false → (q5s w t a).1 = w ∧ (q5s w t a).2.1 = 0 ∧ (q5s w t a).2.2.2 = true := by
  unfold q5s
  intro h
  repeat' split
  all_goals first
    | exact ⟨rfl, rfl, rfl⟩
    | (exfalso; simp_all)
theorem enter_k (w : Wd) (t : Ob) (a : Nat → Int) : (q5s w t a).2.2.2 = true := by
  unfold q5s
  repeat' split
  all_goals rfl
theorem kgate_err (w : Wd) (t : Ob) (n : Int) (a : Nat → Int) : ((q4x w t n a).2.2.1 == 0) = false → (q4x w t n a).1 = w ∧ (q4x w t n a).2.1 = 0 ∧ (q4x w t n a).2.2.2 = true := by
  unfold q4x
  split
  · exact enter_err w t a
  · intro h; simp at h
theorem x0i {l : List Pr} {th : Th} (h : q8b l th = true) {i : Nat} (hi : i < 4) : kept (th.labs i) = true := by
  unfold q8b at h; simp only [Bool.and_eq_true] at h; exact allB_iff.1 h.1 i hi
theorem thr_clear {l : List Pr} {th : Th} (h : q8b l th = true) : kept th.clear = true ∧ leqR l th.clear = true := by
  unfold q8b at h; simp only [Bool.and_eq_true] at h; exact ⟨h.2.2.1, h.2.2.2.1⟩
theorem thr_new {l l' c : List Pr} {th : Th} (h : q8b l th = true) (hc : kept c = true) (hl : leqR l' c = true) (regs : Nat → Int) (pc : Int) (sp : Rf) : q8b l' { th with regs := regs, pc := pc, clear := c, space := sp } = true := by
  unfold q8b at h ⊢
  simp only [Bool.and_eq_true] at h ⊢
  exact ⟨h.1, h.2.1, hc, hl, h.2.2.2.2⟩
theorem isThr_ok {w : Wd} {id : Int} (h : isThr w id = true) : (q2p w id).1 ∈ w.objects ∧ (q2p w id).1.id = id ∧ (q2p w id).1.kind = 4 := by
  unfold isThr at h
  rw [Bool.and_eq_true] at h
  obtain ⟨h1, h2⟩ := find_id h.1
  exact ⟨h2, h1, by simpa using h.2⟩
theorem kgate_good {w : Wd} (g : Good w) {t : Ob} (ht : t ∈ w.objects) (hk : t.kind = 4) (n : Int) (a : Nat → Int) (ha : ∀ i, i < 7 → 0 ≤ a i) : Good (q4x w t n a).1 := by
  unfold q4x
  split
  · unfold q5s
    split
    · rename_i h1
      split
      · split
        · rename_i h3
          simp only [Bool.and_eq_true, decide_eq_true_eq] at h1
          unfold mayR at h3
          rw [Bool.and_eq_true] at h3
          have hs := q6n (q7z g.fit) ht
          have hT := thr_of hs hk
          have a2 := ha 2 (by decide)
          have a3 := ha 3 (by decide)
          have k2 : kept (la t a 2) = true := x0i hT.fit (by omega)
          have k3 : kept (la t a 3) = true := x0i hT.fit (by omega)
          have hle : leqR (la t a 2) (la t a 3) = true := by
            have := h3.1
            unfold enterR at this
            simp only [Bool.and_eq_true] at this
            exact this.2.2.2.2.1
          obtain ⟨m1, m2, m3⟩ := (g.L.2 t ht).1.2.2.2.2.1
          have l3 := q4m k3
          exact thr_good g ht hk k2 (thr_new hT.fit k3 hle _ _ _) rfl ⟨Nat.le_trans l3 (by decide), m2, m3⟩ (lies_ok g h3.2)
        · exact g
      · exact g
    · exact g
  · exact g
end Go.Proofs.YtoibbedpaaeclaaGreat.kgate
end

section
namespace Go.Proofs.YtoibbedpaaeclaaGreat
open Go Go.RowKit
set_option linter.unusedVariables false
set_option linter.unusedSimpArgs false
set_option maxHeartbeats 16000000
set_option maxRecDepth 100000
attribute [local irreducible] q0i dr q0d Ex.then Ex.inBlock retQ q1l q2j q2g Pure CSat evOp q1i rdOf upd hset strip sp0 cut envL q1g q3q Keep BdL evBs q2s q3c
def RisU (l : List Int) : Prop := ∀ (i j : Nat) (x y : Int), l[i]? = some x → l[j]? = some y → i < j → x < y
def posU (l : List Int) (id : Int) : Nat := (l.takeWhile (fun x => decide (x < id))).length
theorem posU_spot {l : List Int} {id : Int} {n : Nat} (hn : n ≤ l.length) (h1 : ∀ k, k < n → ∀ x, l[k]? = some x → x < id) (h2 : ∀ x, l[n]? = some x → ¬ x < id) : posU l id = n := by
  unfold posU
  induction l generalizing n with
  | nil => simp at hn; subst hn; rfl
  | cons a l ih =>
    cases n with
    | zero =>
      have := h2 a rfl
      rw [List.takeWhile_cons, if_neg (by simpa using this)]; rfl
    | succ n =>
      have := h1 0 (by omega) a rfl
      rw [List.takeWhile_cons, if_pos (by simpa using this), List.length_cons, ih (by simpa using hn) (fun k hk x hx => h1 (k + 1) (by omega) x (by simpa using hx)) (fun x hx => h2 x (by simpa using hx))]
theorem hitU {l : List Int} {id : Int} {n : Nat} (hs : RisU l) (h1 : ∀ k, k < n → ∀ x, l[k]? = some x → x < id) {x : Int} (hx : l[n]? = some x) (h2 : ¬ x < id) : l.any (· == id) = (x == id) := by
  cases hc : (x == id) with
  | true => exact List.any_eq_true.2 ⟨x, sidx hx, hc⟩
  | false =>
    rw [List.any_eq_false]
    intro y hy he
    obtain ⟨k, hk⟩ := List.getElem?_of_mem hy
    have hxi : x ≠ id := by simpa using hc
    have hyi : y = id := by simpa using he
    rcases Nat.lt_trichotomy k n with h | h | h
    · have := h1 k h y hk; omega
    · subst h; rw [hx] at hk; cases hk; exact hxi hyi
    · have := hs n k x y hx hk h; omega
theorem missU {l : List Int} {id : Int} (h1 : ∀ k, k < l.length → ∀ x, l[k]? = some x → x < id) : l.any (· == id) = false := by
  rw [List.any_eq_false]
  intro y hy he
  obtain ⟨k, hk⟩ := List.getElem?_of_mem hy
  have := h1 k (q3y hk) y hk
  have hyi : y = id := by simpa using he
  omega
theorem cmp_less2 (x y : Int) : Pure Tryz.prog 304 [.int .u64 x, .int .u64 y] (.bool (decide (x < y))) := by
  refine q2d (by kernel_rfl) (by simp only [go_sem, *]) (by simp only [go_sem, *]) Tryz.func304 Tryz.results304 rfl (by simp [Tryz.ntmps304]) (by kernel_rfl) ?_
  repeat' (first | (show q0i ..; first | refine q0c ?_ | refine q0e rfl ?_ | refine q1b rfl rfl ?_) | (show q0k ..; first | refine q0f rfl rfl ?_ | refine q0m rfl ?_) | (show goOn ..; refine q0g ?_) | (show q1j ..; (refine q0u (r := ?_) ?_ ?_; rotate_left 1; (focus exact cmp_nan _))) | (show wGo ..; first | refine q4e ?_ | refine q3x ?_) | (show q0d ..; first | refine q0h ?_ | refine q0b ?_ | refine q0r ?_) | refine q0a ?_ | (show retQ ..; refine q0s ?_) | refine q0l ?_)
  all_goals rfl
theorem sl_nan2 (x : Int) : Pure Tryz.prog 305 [.int .u64 x] (.bool false) := by
  refine q2d (by kernel_rfl) (by simp only [go_sem, *]) (by simp only [go_sem, *]) Tryz.func305 Tryz.results305 rfl (by simp [Tryz.ntmps305]) (by kernel_rfl) ?_
  repeat' (first | (show q0i ..; first | refine q0c ?_ | refine q0e rfl ?_) | (show q0k ..; refine q0f rfl rfl ?_) | (show goOn ..; refine q0g ?_) | (show q0d ..; first | refine q0h ?_ | refine q0b ?_ | refine q0r ?_) | refine q0a ?_ | (show retQ ..; refine q0s ?_) | refine q0l ?_)
  all_goals simp
theorem search_u (l : List Int) (id : Int) (hl : l.length ≤ 1000000) (hs : RisU l) : Pure Tryz.prog 293 [.sl (l.map u64), .int .u64 id] (.tup [.int .i64 (posU l id), .bool (l.any (· == id))]) := by
  refine q2d (by kernel_rfl) (by simp only [go_sem, *]) (by simp only [go_sem, *]) Tryz.func293 Tryz.results293 rfl (by simp [Tryz.ntmps293]) (by kernel_rfl) ?_
  repeat' (first | (show q0i ..; first | refine q0c ?_ | refine q0e rfl ?_) | (show q0k ..; refine q0f rfl rfl ?_) | (show goOn ..; refine q0g ?_) | (show q0d ..; first | refine q0h ?_ | refine q0b ?_ | refine q0n ?_) | refine q0a ?_)
  refine q2q (S := Nat × Nat) (fun s => s.2 - s.1) (fun s => s.1 ≤ s.2 ∧ s.2 ≤ l.length ∧ (∀ k, k < s.1 → ∀ x, l[k]? = some x → x < id) ∧ (∀ k, s.2 ≤ k → ∀ x, l[k]? = some x → ¬ x < id)) (fun s => [(0, .sl (l.map u64)), (1, .int .u64 id), (6, .int .i64 l.length), (7, .int .i64 s.1), (8, .int .i64 s.2)]) (fun _ => []) (fun _ => 0) (0, l.length) ⟨Nat.zero_le _, Nat.le_refl _, fun k hk => absurd hk (Nat.not_lt_zero k), fun k hk x hx => absurd (q3y hx) (by simp only at hk; omega)⟩ (by (refine q1n ?_ ?_ <;> repeat' (first | exact q0v | exact q0y | refine q0p (by (try simp only [go_sem, *]); try rfl) (by simp only [go_sem, *]) ?_ | refine q0z (by (try simp only [go_sem, *]); try rfl) (by omega) (by simp only [go_sem, *]) ?_ | refine q0x (by (try simp only [go_sem, *]); try rfl) (by omega) (by simp only [go_sem, *]) ?_))) ?_
  rintro ⟨i, j⟩ ⟨hij, hj, h1, h2⟩
  simp only at hij hj h1 h2
  rcases Nat.lt_or_ge i j with hlt | hge
  · obtain ⟨x, hx⟩ := q2f (by omega : (i + j) / 2 < l.length)
    have h0 := q2k hlt
    have e1 : IntKind.i64.wrap ((i : Int) + (j : Int)) = ((i + j : Nat) : Int) := by rw [IntKind.wrap_i64]; omega
    have e2 : IntKind.u64.wrap ((i + j : Nat) : Int) = ((i + j : Nat) : Int) := by rw [IntKind.wrap_u64]; omega
    have e3 : IntKind.i64.wrap (((i + j) / 2 : Nat) : Int) = (((i + j) / 2 : Nat) : Int) := by rw [IntKind.wrap_i64]; omega
    have e4 := q2e ((i + j) / 2) (by omega)
    repeat' (first | (show q0i ..; first | refine q0c ?_ | refine q0e rfl ?_) | (show q0k ..; first | refine q0f rfl rfl ?_ | refine q0m rfl ?_) | (show goOn ..; refine q0g ?_) | (show q1j ..; (refine q0u (r := ?_) ?_ ?_; rotate_left 1; (focus exact cmp_less2 _ _))) | (show q0d ..; first | refine q0h ?_ | refine q0b ?_ | refine q0q ?_ | refine q0n ?_ | refine q0j ?_) | (show q0o ..; first | refine cd_t ?_ | refine cd_b (fun _ => ?_) (fun _ => ?_)) | refine q0a ?_ | refine q0t ?_)
    all_goals rename_i hc
    · refine again ((i + j) / 2 + 1, j) ⟨by simp only; omega, hj, fun k hk y hy => ?_, h2⟩ (by simp only; omega) (by (refine q1n ?_ ?_ <;> repeat' (first | exact q0v | exact q0y | refine q0p (by (try simp only [go_sem, *]); try rfl) (by simp only [go_sem, *]) ?_ | refine q0z (by (try simp only [go_sem, *]); try rfl) (by omega) (by simp only [go_sem, *]) ?_ | refine q0x (by (try simp only [go_sem, *]); try rfl) (by omega) (by simp only [go_sem, *]) ?_)))
      simp only at hk
      have hc' := of_decide_eq_true hc
      rcases Nat.lt_or_ge k ((i + j) / 2) with h | h
      · have := hs k _ y x hy hx h; omega
      · obtain rfl : k = (i + j) / 2 := by omega
        rw [hx] at hy; cases hy; exact hc'
    · refine again (i, (i + j) / 2) ⟨by simp only; omega, by simp only; omega, h1, fun k hk y hy => ?_⟩ (by simp only; omega) (by (refine q1n ?_ ?_ <;> repeat' (first | exact q0v | exact q0y | refine q0p (by (try simp only [go_sem, *]); try rfl) (by simp only [go_sem, *]) ?_ | refine q0z (by (try simp only [go_sem, *]); try rfl) (by omega) (by simp only [go_sem, *]) ?_ | refine q0x (by (try simp only [go_sem, *]); try rfl) (by omega) (by simp only [go_sem, *]) ?_)))
      simp only at hk
      have hc' := of_decide_eq_false hc
      rcases Nat.lt_or_ge ((i + j) / 2) k with h | h
      · have := hs _ k x y hx hy h; omega
      · obtain rfl : k = (i + j) / 2 := by omega
        rw [hx] at hy; cases hy; exact hc'
  · obtain rfl : i = j := by omega
    have h0 := q1w hge
    have hp := posU_spot hj h1 (h2 i (Nat.le_refl _))
    rcases Nat.lt_or_ge i l.length with hlt | hge2
    · obtain ⟨x, hx⟩ := q2f hlt
      have h3 := q2k hlt
      have hh := hitU hs h1 hx (h2 i (Nat.le_refl _) x hx)
      rw [hp, hh]
      repeat' (first | (show q0i ..; first | refine q0c ?_ | refine q0e rfl ?_ | refine q1b rfl rfl ?_) | (show q0k ..; first | refine q0f rfl rfl ?_ | refine q0m rfl ?_) | (show goOn ..; refine q0g ?_) | (show q1j ..; (refine q0u (r := ?_) ?_ ?_; rotate_left 1; (focus exact sl_nan2 _))) | (show wGo ..; first | refine q3n ?_ | refine q4e ?_ | refine q3x ?_ | refine q5b ?_ | refine gw_u ?_ | refine gw_fb (fun _ => ?_) (fun _ => ?_)) | (show q0d ..; first | refine q0h ?_ | refine q0b ?_ | refine q0r ?_ | refine q1q ?_ | refine q0j ?_) | (show q0o ..; refine cd_f ?_) | refine q0a ?_ | refine q1p ?_ | refine q1r ?_ | (show retQ ..; refine q0s ?_) | refine q0l ?_)
      all_goals simp_all
    · have h3 := q1w hge2
      obtain rfl : i = l.length := by omega
      have hh := missU (id := id) h1
      rw [hp, hh]
      repeat' (first | (show q0i ..; first | refine q0c ?_ | refine q0e rfl ?_ | refine q1b rfl rfl ?_) | (show q0k ..; refine q0f rfl rfl ?_) | (show goOn ..; refine q0g ?_) | (show wGo ..; first | refine q3x ?_ | refine gw_u ?_) | (show q0d ..; first | refine q0h ?_ | refine q0b ?_ | refine q0r ?_ | refine q1q ?_ | refine q0j ?_) | (show q0o ..; refine cd_f ?_) | refine q0a ?_ | refine q1p ?_ | refine q1r ?_ | (show retQ ..; refine q0s ?_) | refine q0l ?_)
      all_goals simp_all
end Go.Proofs.YtoibbedpaaeclaaGreat
end

section
namespace Go.Proofs.YtoibbedpaaeclaaGreat
open Go Go.RowKit
set_option linter.unusedVariables false
set_option linter.unusedSimpArgs false
def q7v : Code → Bool
  | .skip => true
  | .exit _ => true
  | .ret => true
  | .region _ ops draw => !draw && ops.all (fun o => match o.op with | .defer _ => false | _ => true)
  | .seq x y => q7v x && q7v y
  | .cond _ x y => q7v x && q7v y
  | .block _ x => q7v x
  | _ => false
section
variable {P : Program} {w0 : World} {M0 : Nat → Nat → Prop} {σ0 : Nat → Gh} {H0 : Heap} {m0 nt : Nat} {ds : List Deferred}
theorem q9z {m0 m1 : Nat} : ∀ (c : Code) (Q : Ex → Env → Heap → Nat → Prop), q7v c = true → q0d P m0 c Q = q0d P m1 c Q := by
  intro c
  induction c with
  | skip => intro Q _; rfl
  | region id ops draw => intro Q _; rfl
  | seq x y ihx ihy =>
    intro Q h
    simp only [q7v, Bool.and_eq_true] at h
    simp only [q0d]
    rw [ihy _ h.2, ihx _ h.1]
  | cond c x y ihx ihy =>
    intro Q h
    simp only [q7v, Bool.and_eq_true] at h
    simp only [q0d]
    rw [ihy _ h.2, ihx _ h.1]
  | block id x ih =>
    intro Q h
    simp only [q7v] at h
    simp only [q0d]
    rw [ih _ h]
  | exit id => intro Q _; rfl
  | ret => intro Q _; rfl
  | _ => intro _ h; simp [q7v] at h
theorem qq_outs {Q : Ex → Env → Heap → Nat → Prop} : ¬ LetsOut (QQ w0 M0 σ0 H0 m0 nt ds Q) := by
  rintro ⟨a, w, ex, env, H, m, σ, _, _, h⟩
  cases ex <;> exact h.elim
/-- In a round: code without loops. -/
theorem pwCode_round (hm : P.follows .mixedOrders = true) {l : Nat} : ∀ (c : Code) (Q : Ex → Env → Heap → Nat → Prop) (a : Act) (w : World) (env : Env) (H : Heap) (m : Nat) (σ : Nat → Gh), q7v c = true → q4o nt c = true →
    St w0 M0 σ0 H0 m0 nt ds a w env H m σ → q0d P m0 c Q env H m → c.wpIn (Fence.wide.inRound l) 0 P (QQ w0 M0 σ0 H0 m0 nt ds Q) a w := by
  intro c
  induction c with
  | skip => intro Q a w env H m σ hf hd hS h; exact wpIn_skip ⟨.normal, env, H, m, σ, h, hS, trivial⟩
  | region id ops draw =>
    intro Q a w env H m σ hf hd hS h
    have hdst : ∀ o ∈ ops, ∀ x, o.dst = some x → x < nt := fun o ho x hx => by
      have := Array.all_eq_true_iff_forall_mem.1 hd o ho
      rw [hx] at this; simpa using this
    cases draw with
    | false =>
      simp only [q7v, Bool.not_false, Bool.true_and] at hf
      cases ops with
      | mk l => exact region_round hf qq_outs (q9x l a w env H m σ hS (fun o ho => hdst o (Array.mem_toList_iff.1 ho)) h)
    | true => simp [q7v] at hf
  | seq x y ihx ihy =>
    intro Q a w env H m σ hf hd hS h
    simp only [q4o, Bool.and_eq_true] at hd
    simp only [q7v, Bool.and_eq_true] at hf
    refine wpIn_seq (wpIn_mono (ihx _ a w env H m σ hf.1 hd.1 hS h) (qq_then fun a' w' env' H' m' σ' hn hS' => ihy Q a' w' env' H' m' σ' hf.2 hd.2 hS' hn))
  | cond c x y ihx ihy =>
    intro Q a w env H m σ hf hd hS h
    simp only [q4o, Bool.and_eq_true] at hd
    simp only [q7v, Bool.and_eq_true] at hf
    simp only [q0d] at h
    split at h
    · rename_i b hb
      have hv := hS.eval c
      rw [hb] at hv
      have hc : a.eval c = .bool b := by generalize a.eval c = u at hv; cases hv; rfl
      refine wpIn_cond hc ?_
      cases b with
      | true => exact ihx Q a w env H m σ hf.1 hd.1 hS (h.1 rfl)
      | false => exact ihy Q a w env H m σ hf.2 hd.2 hS (h.2 rfl)
    · exact h.elim
  | block id x ih =>
    intro Q a w env H m σ hf hd hS h
    refine wpIn_block (wpIn_mono (ih _ a w env H m σ hf hd hS h) ?_)
    rintro e a' w' ⟨ex, env', H', m', σ', hq, hS', hr⟩
    cases e <;> cases ex <;> first
      | exact hr.elim
      | exact ⟨_, env', H', m', σ', hq, hS', hr⟩
      | (have hr' : _ = _ := hr
         subst hr'
         simp only [Exit.inBlock, Ex.inBlock] at hq ⊢
         split
         · rename_i he; rw [if_pos he] at hq; exact ⟨.normal, env', H', m', σ', hq, hS', trivial⟩
         · rename_i he; rw [if_neg he] at hq; exact ⟨_, env', H', m', σ', hq, hS', rfl⟩)
  | exit id => intro Q a w env H m σ hf hd hS h; exact wpIn_exit ⟨.exit id, env, H, m, σ, h, hS, rfl⟩
  | ret => intro Q a w env H m σ hf hd hS h; exact wpIn_ret ⟨.ret, env, H, m, σ, h, hS, trivial⟩
  | _ => intro _ _ _ _ _ _ _ h; simp [q7v] at h
inductive FrontS : Code → Code → Code → Code → Prop
  | r {x y z : Code} : FrontS x y z (x.seq (y.seq z))
  | l {x y z : Code} : FrontS x y z ((x.seq y).seq z)
  | more {x' x y z b : Code} (h : FrontS x y z b) : FrontS (x'.seq x) y z (x'.seq b)
theorem front_inS (hm : P.follows .mixedOrders = true) (hfree : ∀ i, m0 ≤ i → H0 i = none) {R : Exit → Act → World → Prop} {x y z b : Code} (hF : FrontS x y z b) :
    ∀ {K : Env → Heap → Nat → Prop} {a : Act} {w : World} {env : Env} {H : Heap} {m : Nat} {σ : Nat → Gh}, q4o nt x = true → St w0 M0 σ0 H0 m0 nt ds a w env H m σ → q0d P m0 x (fun ex env H' m' => ex = .normal ∧ K env H' m') env H m →
      (∀ a' w' env' H' m' σ', K env' H' m' → St w0 M0 σ0 H0 m0 nt ds a' w' env' H' m' σ' → y.wpIn Fence.wide 0 P (Exit.then (z.wpIn Fence.wide 0 P R) R) a' w') → b.wpIn Fence.wide 0 P R a w := by
  induction hF with
  | r =>
    intro K a w env H m σ hd hS h hz
    refine wpIn_seq (wpIn_wide.2 (wp_mono (q3i hm hfree _ _ a w env H m σ hd hS h) ?_))
    rintro e a' w' ⟨ex, env', H', m', σ', ⟨rfl, hq⟩, hS', hx⟩
    cases e <;> first | exact hx.elim | skip
    exact wpIn_seq (hz _ _ _ _ _ _ hq hS')
  | l =>
    intro K a w env H m σ hd hS h hz
    refine wpIn_seq (wpIn_seq (wpIn_wide.2 (wp_mono (q3i hm hfree _ _ a w env H m σ hd hS h) ?_)))
    rintro e a' w' ⟨ex, env', H', m', σ', ⟨rfl, hq⟩, hS', hx⟩
    cases e <;> first | exact hx.elim | skip
    exact hz _ _ _ _ _ _ hq hS'
  | more hF ih =>
    intro K a w env H m σ hd hS h hz
    simp only [q4o, Bool.and_eq_true] at hd
    refine wpIn_seq (wpIn_wide.2 (wp_mono (q3i hm hfree _ _ a w env H m σ hd.1 hS h) ?_))
    rintro e a' w' ⟨ex, env', H', m', σ', hq, hS', hx⟩
    cases ex <;> first | exact absurd hq.1 (by intro h; cases h) | skip
    cases e <;> first | exact hx.elim | skip
    exact ih hd.2 hS' hq hz
theorem front_in (hm : P.follows .mixedOrders = true) (hfree : ∀ i, m0 ≤ i → H0 i = none) {R : Exit → Act → World → Prop} {x z b : Code} (hF : Front x z b) :
    ∀ {K : Env → Heap → Nat → Prop} {a : Act} {w : World} {env : Env} {H : Heap} {m : Nat} {σ : Nat → Gh}, q4o nt x = true → St w0 M0 σ0 H0 m0 nt ds a w env H m σ → q0d P m0 x (fun ex env H' m' => ex = .normal ∧ K env H' m') env H m →
      (∀ a' w' env' H' m' σ', K env' H' m' → St w0 M0 σ0 H0 m0 nt ds a' w' env' H' m' σ' → z.wpIn Fence.wide 0 P R a' w') → b.wpIn Fence.wide 0 P R a w := by
  induction hF with
  | one =>
    intro K a w env H m σ hd hS h hz
    refine wpIn_seq (wpIn_wide.2 (wp_mono (q3i hm hfree _ _ a w env H m σ hd hS h) ?_))
    rintro e a' w' ⟨ex, env', H', m', σ', ⟨rfl, hq⟩, hS', hx⟩
    cases e <;> first | exact hx.elim | skip
    exact hz _ _ _ _ _ _ hq hS'
  | more hF ih =>
    intro K a w env H m σ hd hS h hz
    simp only [q4o, Bool.and_eq_true] at hd
    refine wpIn_seq (wpIn_wide.2 (wp_mono (q3i hm hfree _ _ a w env H m σ hd.1 hS h) ?_))
    rintro e a' w' ⟨ex, env', H', m', σ', hq, hS', hx⟩
    cases ex <;> first | exact absurd hq.1 (by intro h; cases h) | skip
    cases e <;> first | exact hx.elim | skip
    exact ih hd.2 hS' hq hz
end
/-- Other blocks change. -/
theorem HR.ev {A B : World} {M M' : Nat → Nat → Prop} {σ : Nat → Gh} {H : Heap} {X : Nat → Prop} (h : HR A M σ H) (he : EvB X A B) (hm : ∀ b o, M' b o → b < B.heap.size) (hX : ∀ b o v, A.cell? ⟨b, o, none⟩ = some v → X b → M b o)
    (hXb : ∀ id, H id ≠ none → ¬ X (σ id).blk) (hM : ∀ b o v, A.cell? ⟨b, o, none⟩ = some v → M' b o → M b o) (hsep : ∀ id, H id ≠ none → ∀ o, ¬ M' (σ id).blk o) : HR B M' σ H ∧ Ext A (MU M σ H) σ (LV H) B (MU M' σ H) σ (LV H) := by
  have E : Ext A (MU M σ H) σ (LV H) B (MU M' σ H) σ (LV H) := ⟨fun b o v h1 h2 => ⟨q5o h1 (he.block b (q3p h1) (fun hx => h2 (.inl (hX b o v h1 hx)))), by
    rintro (h3 | h3 | h3)
    · exact h2 (.inl (hM b o v h1 h3))
    · exact h2 (.inr (.inl h3))
    · exact h2 (.inr (.inr h3))⟩, fun id hid => ⟨hid, .inl rfl⟩⟩
  have hb : ∀ id, H id ≠ none → B.heap[(σ id).blk]? = A.heap[(σ id).blk]? := fun id hid => he.block _ (h.lt hid) (hXb id hid)
  refine ⟨⟨hm, hsep, h.inj, fun id l hl => ?_, fun id e sz els hl => ?_⟩, E⟩
  · obtain ⟨h1, c, t, h2, hsh, h3⟩ := h.box id l hl
    exact ⟨h1, c, t, (hb id (by rw [hl]; simp)).trans h2, hsh, h3.mono E⟩
  · obtain ⟨h1, h2, h3, xs, h4, h5⟩ := h.row id e sz els hl
    exact ⟨h1, h2, h3, xs, q4q h4 (hb id (by rw [hl]; simp)), h5.mono E⟩
/-- Fewer own boxes. -/
theorem HR.part {w : World} {M M' : Nat → Nat → Prop} {σ : Nat → Gh} {H H' : Heap} (h : HR w M σ H) (hrow : ∀ id e sz els, H id ≠ some (.row e sz els)) (hsub : ∀ id, H' id = H id ∨ H' id = none) (hm0 : ∀ b o, M' b o → b < w.heap.size)
    (hsep : ∀ id, H' id ≠ none → ∀ o, ¬ M' (σ id).blk o) (hmu : ∀ b o, M' b o → MU M σ H b o) (hbd : ∀ id l, H' id = some (.box l) → ∀ p ∈ l, Bd (LV H') p) : HR w M' σ H' ∧ (∀ v p, VV w M σ H v p → Bd (LV H') p → VV w M' σ H' v p) := by
  have hs : ∀ i, H' i ≠ none → H' i = H i := fun i hi => (hsub i).resolve_right hi
  have hs' : ∀ i, H' i ≠ none → H i ≠ none := fun i hi => by rw [← hs i hi]; exact hi
  have hmu' : ∀ b o, MU M' σ H' b o → MU M σ H b o := by
    rintro b o (h | ⟨id, l, h1, h2⟩ | ⟨id, e, sz, els, h1, h2, h3⟩)
    · exact hmu b o h
    · exact .inr (.inl ⟨id, l, by rw [← hs id (by rw [h1]; simp)]; exact h1, h2⟩)
    · exact absurd (by rw [← hs id (by rw [h1]; simp)]; exact h1) (hrow id e sz els)
  have hvr : ∀ v p, VV w M σ H v p → Bd (LV H') p → VV w M' σ H' v p := fun v p hv hb => hv.bd (fun b o u _ h1 h2 => h1 (hmu' b o h2)) (fun id hid => ⟨hid, rfl⟩) hb
  refine ⟨⟨hm0, hsep, fun i j hi hj => h.inj i j (hs' i hi) (hs' j hj), fun id l hl => ?_, fun id e sz els hl => ?_⟩, hvr⟩
  · obtain ⟨h1, c, t, h2, hsh, h3⟩ := h.box id l (by rw [← hs id (by rw [hl]; simp)]; exact hl)
    exact ⟨h1, c, t, h2, hsh, h3.len, h3.one, fun i v p hv hp => hvr _ _ (h3.rel i v p hv hp) (hbd id l hl p (q3s hp))⟩
  · exact absurd (by rw [← hs id (by rw [hl]; simp)]; exact hl) (hrow id e sz els)
theorem Fr.evB {w w' : World} {M σ H σ' H'} (h : Fr w M σ H w' σ' H') : EvB (fun b => ∃ i, H i ≠ none ∧ (σ i).blk = b) w w' := ⟨h.os, h.tape, h.output, h.size, fun k hk hn => h.block k hk (fun id hid e => hn ⟨id, hid, e⟩)⟩
theorem Fr.kept {w w' : World} {M σ H σ' H'} (h : Fr w M σ H w' σ' H') {kp : Nat → Prop} (hk : ∀ id, H id ≠ none → ¬ kp (σ id).blk) : Kept kp w w' := Kept.of_ev h.evB (fun k ⟨i, h1, h2⟩ hkp => hk i h1 (h2 ▸ hkp))
/-- An iterator's contract: it hands out xs, one by one; of what there is it writes blocks of 'own' alone; what its caller owns ('C') may be another one behind each, and nothing else that there is. -/
def SeqJ {α : Type} (P : Program) (g : Nat) (lb : Array Value) (encs : α → Array Value) (own C0 : Nat → Prop) (xs : List α) (w : World) : Prop :=
  ∀ (l : Nat) (J : Nat → (Nat → Prop) → World → Prop) (Jx : World → Prop) (C : Nat → Prop) (W : World), Below w.heap.size w W → (∀ b, C b → C0 b ∨ w.heap.size ≤ b) → (∀ k C A, J k C A → ∀ b, C b → b < A.heap.size) →
    (∀ k C A B, J k C A → EvB own A B → J k C B) → (∀ A B, Jx A → EvB own A B → Jx B) →
    (∀ k C (x : α) W1, xs[k]? = some x → J k C W1 → YieldAt Fence.wide 0 P l (encs x) W1 fun e W' =>
      (e = .returned (.bool true) ∧ Kept (fun b => ¬ C b) W1 W' ∧ ∃ C', (∀ b, C' b → C b ∨ W1.heap.size ≤ b) ∧ J (k + 1) C' W') ∨ (e = .returned (.bool false) ∧ Jx W')) →
    J 0 C W → CallsIn Fence.wide 0 P g (#[.func (.yield l) #[] #[]] ++ lb) W fun e W' => (∃ v, e = .returned v) ∧ ((∃ C, J xs.length C W') ∨ Jx W')
/-- How a round's body may be left. -/
def roundJ (keep : Nat → Prop) (I : Nat → (Nat → Prop) → World → Prop) (Ix : Code → World → Prop) (k n : Nat) (C : Nat → Prop) (W : World) : Exit → Act → World → Prop
  | .normal, _, W' => Kept keep W W' ∧ Kept (fun b => ¬ C b ∧ b < n) W W' ∧ ∃ C', (∀ b, C' b → C b ∨ n ≤ b) ∧ I (k + 1) C' W'
  | .ret, _, W' => Kept keep W W' ∧ Ix .ret W'
  | .exit id, _, W' => Kept keep W W' ∧ Ix (.exit id) W'
  | .goto t, _, W' => Kept keep W W' ∧ Ix (.goto t) W'
  | .panic _, _, _ => False
  | .outgrown, _, _ => False
theorem Kept.imp' {kp kp' : Nat → Prop} {A B : World} (h : Kept kp A B) (hk : ∀ k, k < A.heap.size → kp' k → kp k) : Kept kp' A B := ⟨h.os, h.tape, h.output, h.size, fun i hi ho => h.block i hi (hk i hi ho)⟩
theorem range_law2 {α : Type} {P : Program} {n : Nat} {g : Operand} {ps : Array Tmp} {assign body : Code} {Q : Exit → Act → World → Prop} {a : Act} {w : World}
    {gf : Nat} {lb : Array Value} (hg : a.eval g = .func (.func gf) #[] lb) (eg : ∀ args w, (callFunc gf args).run P w = .ok (.enter gf args) w)
    {encs : α → Array Value} {own C0 : Nat → Prop} {xs : List α} (hseq : SeqJ P gf lb encs own C0 xs w) (hps : ∀ x, (encs x).size = ps.size)
    (hown : ∀ k, own k → k < w.heap.size) (hC0 : ∀ k, C0 k → k < w.heap.size)
    (I : Nat → (Nat → Prop) → World → Prop) (Ix : Code → World → Prop) (hIC : ∀ k C A, I k C A → ∀ b, C b → b < A.heap.size)
    (hI : ∀ k C A B, I k C A → EvB (fun i => own i ∨ i = w.heap.size ∨ i = w.heap.size + 1) A B → I k C B)
    (hIx : ∀ c A B, Ix c A → EvB (fun i => own i ∨ i = w.heap.size ∨ i = w.heap.size + 1) A B → Ix c B)
    (h0 : I 0 C0 w)
    (hround : ∀ (k : Nat) (C : Nat → Prop) (x : α) (W : World), xs[k]? = some x → I k C W → w.heap.size + 2 ≤ W.heap.size →
      assign.wpIn (Fence.wide.inRound (w.heap.size + 1)) 0 P (Exit.then (fun a1 W1 => Kept (fun i => i = w.heap.size ∨ i = w.heap.size + 1) W W1 ∧ Kept (fun b => ¬ C b) W W1 ∧
          ∀ W2, EvB (fun i => i = w.heap.size ∨ i = w.heap.size + 1) W1 W2 → body.wpIn (Fence.wide.inRound (w.heap.size + 1)) 0 P (roundJ (fun i => i = w.heap.size ∨ i = w.heap.size + 1) I Ix k W.heap.size C W2) a1 W2) (fun _ _ _ => False))
        { tmps := (ps.zip (encs x)).foldl (fun t (p, v) => t.setIfInBounds p v) a.tmps, defers := [] } W)
    (hdone : ∀ C W, I xs.length C W → w.heap.size + 2 ≤ W.heap.size → W.heap[w.heap.size]? = some (.deferred (some [])) → Q .normal { a with defers := { target := .collected w.heap.size, args := #[] } :: a.defers } W)
    (hstop : ∀ c W, Ix c W → w.heap.size + 2 ≤ W.heap.size → W.heap[w.heap.size]? = some (.deferred (some [])) → c.wpIn Fence.wide n P Q { a with defers := { target := .collected w.heap.size, args := #[] } :: a.defers } W) :
    (Code.rangeFunc g ps assign body).wpIn Fence.wide n P Q a w := by
  refine wpIn_rangeFunc ?_
  intro fn hfn
  obtain ⟨rec, hrec⟩ : ∃ rec : LoopState → Option Code → Loop, rec = fun st pe => { state := st, pending := pe, fn, tmps := a.tmps, params := ps, assign, body, defers := w.heap.size } := ⟨_, rfl⟩
  obtain ⟨W1, hW1⟩ : ∃ W1, (w.alloc (.deferred (some []))).alloc (.loop (rec .ready none)) = W1 := ⟨_, rfl⟩
  have hL1 : W1.heap[w.heap.size + 1]? = some (.loop (rec .ready none)) := by
    rw [← hW1]; have := World.alloc_heap_new (w.alloc (.deferred (some []))) (.loop (rec .ready none)); rwa [World.size_alloc] at this
  have hK1 : W1.heap[w.heap.size]? = some (.deferred (some [])) := by
    rw [← hW1]; exact (Below.heap_alloc _ _ _ (by simp)).trans (World.alloc_heap_new w _)
  have hb1 : Below w.heap.size w W1 := by
    rw [← hW1]; exact ((Below.refl _ w).alloc (Nat.le_refl _) _).alloc (by simp) _
  have hI1 : I 0 C0 W1 := hI _ _ _ _ h0 (EvB.ofB _ hb1)
  refine ⟨w.heap.size + 1, [{ target := .collected w.heap.size, args := #[] }], W1, { target := .fn (.func gf) lb, args := #[.func (.yield (w.heap.size + 1)) #[] #[]] }, W1, gf,
    #[.func (.yield (w.heap.size + 1)) #[] #[]] ++ lb, W1, ?_, ?_, ?_, ?_, fun h => by simp [Fence.wide] at h, ?_⟩
  · rw [← hW1, hrec]; exact run_enterLoop_outer _ _ _ _ _
  · simp only [resolve, hg]
    simp [go_sem]
  · intro f' hf'; trivial
  · simp [invoke, go_sem, eg]
  · have hev : ∀ {A B : World}, EvB own A B → EvB (fun i => own i ∨ i = w.heap.size ∨ i = w.heap.size + 1) A B := fun h => h.imp (fun _ _ => .inl)
    have hin : ∀ {A B : World} {i : Nat} {o : Obj}, EvB own A B → i = w.heap.size ∨ i = w.heap.size + 1 → A.heap[i]? = some o → B.heap[i]? = some o := fun {A B i o} h hi ho =>
      (h.block i (Array.getElem?_eq_some_iff.1 ho).1 (fun e => by have := hown i e; omega)).trans ho
    refine x1a ((hseq (w.heap.size + 1)
      (fun k D W => ∃ C, (∀ b, D b ↔ C b ∨ b = w.heap.size ∨ b = w.heap.size + 1) ∧ I k C W ∧ W.heap[w.heap.size + 1]? = some (.loop (rec .ready none)) ∧ W.heap[w.heap.size]? = some (.deferred (some [])))
      (fun W => ∃ c, Ix c W ∧ W.heap[w.heap.size + 1]? = some (.loop (rec .done (some c))) ∧ W.heap[w.heap.size]? = some (.deferred (some [])))
      (fun b => C0 b ∨ b = w.heap.size ∨ b = w.heap.size + 1)
      W1 hb1 (fun b hb => by rcases hb with h | h | h <;> first | exact .inl h | exact .inr (by omega))
      (fun k D A hs b hb => by
        obtain ⟨C, hD, hi, hl, hk⟩ := hs
        have l1 := (Array.getElem?_eq_some_iff.1 hl).1
        rcases (hD b).1 hb with h | h | h
        · exact hIC k C A hi b h
        · omega
        · omega)
      (fun k D A B hs he => by
        obtain ⟨C, hD, hi, hl, hk⟩ := hs
        exact ⟨C, hD, hI k C A B hi (hev he), hin he (.inr rfl) hl, hin he (.inl rfl) hk⟩)
      (fun A B hs he => by
        obtain ⟨c, hc, hl, hk⟩ := hs
        exact ⟨c, hIx c A B hc (hev he), hin he (.inr rfl) hl, hin he (.inl rfl) hk⟩)
      ?_ ⟨C0, fun _ => Iff.rfl, hI1, hL1, hK1⟩).mono ?_)
    · -- one round
      rintro k D x W hx ⟨C, hD, hi, hl, hk⟩
      have hlt : w.heap.size + 1 < W.heap.size := (Array.getElem?_eq_some_iff.1 hl).1
      have hy := run_yield (P := P) (args := encs x) hl (by rw [hrec]; exact hps x)
      rw [hrec] at hy
      refine ⟨fn, _, assign, body, hy, roundIn_of_wpIn hfn (wpIn_mono (hround k C x W hx hi (by omega)) ?_)⟩
      clear hy
      rintro e a1 Wa hp
      cases e with
      | normal =>
        obtain ⟨hkr, hkk, hbody⟩ := hp
        have hla : Wa.heap[w.heap.size + 1]? = some (.loop (rec .ready none)) := (hkr.block _ (by omega) (.inr rfl)).trans hl
        have hka : Wa.heap[w.heap.size]? = some (.deferred (some [])) := (hkr.block _ (by omega) (.inl rfl)).trans hk
        have hlta : w.heap.size + 1 < Wa.heap.size := (Array.getElem?_eq_some_iff.1 hla).1
        refine ⟨_, run_beginRound hla (by rw [hrec]), ?_⟩
        obtain ⟨W2, hW2⟩ : ∃ W2, Wa.putObj (w.heap.size + 1) (.loop { rec .ready none with state := .busy }) = W2 := ⟨_, rfl⟩
        rw [hW2]
        have he2 : EvB (fun i => i = w.heap.size ∨ i = w.heap.size + 1) Wa W2 := by rw [← hW2]; exact (EvB.refl _ _).putObj (.inr rfl) _
        have hl2 : W2.heap[w.heap.size + 1]? = some (.loop { rec .ready none with state := .busy }) := by rw [← hW2]; exact World.putObj_heap_same hlta
        have hk2 : W2.heap[w.heap.size]? = some (.deferred (some [])) := by rw [← hW2]; exact (World.putObj_heap_other (by omega)).trans hka
        refine wpIn_mono (hbody W2 he2) ?_
        have fin : ∀ (jump : Option Code) (W3 : World), Kept (fun i => i = w.heap.size ∨ i = w.heap.size + 1) W2 W3 →
            ∃ W4, (Instr.endRound (w.heap.size + 1) jump).run P W3 = .ok (.bool jump.isNone) W4 ∧ EvB (fun i => i = w.heap.size ∨ i = w.heap.size + 1) W3 W4 ∧
            W4.heap[w.heap.size + 1]? = some (.loop (rec (if jump.isNone then .ready else .done) jump)) ∧ W4.heap[w.heap.size]? = some (.deferred (some [])) := fun jump W3 hk3 => by
          have hl3 : W3.heap[w.heap.size + 1]? = some (.loop { rec .ready none with state := .busy }) := (hk3.block _ (Array.getElem?_eq_some_iff.1 hl2).1 (.inr rfl)).trans hl2
          have hk3' : W3.heap[w.heap.size]? = some (.deferred (some [])) := (hk3.block _ (Array.getElem?_eq_some_iff.1 hk2).1 (.inl rfl)).trans hk2
          have hrun := run_endRound (P := P) jump hl3
          rw [hrec] at hrun ⊢
          exact ⟨_, hrun, (EvB.refl _ _).putObj (.inr rfl) _, World.putObj_heap_same (Array.getElem?_eq_some_iff.1 hl3).1, (World.putObj_heap_other (by omega)).trans hk3'⟩
        have up : ∀ {A B : World}, EvB (fun i => i = w.heap.size ∨ i = w.heap.size + 1) A B → EvB (fun i => own i ∨ i = w.heap.size ∨ i = w.heap.size + 1) A B := fun h => h.imp (fun _ _ => .inr)
        have kpe : ∀ {A B : World}, EvB (fun i => i = w.heap.size ∨ i = w.heap.size + 1) A B → Kept (fun b => ¬ D b ∧ b < W.heap.size) A B := fun h => Kept.of_ev h (fun i hi hkpi => hkpi.1 ((hD i).2 (.inr hi)))
        have dc : ∀ b, ¬ D b → ¬ C b := fun b h hc => h ((hD b).2 (.inl hc))
        rintro e a3 W3 hp
        cases e with
        | normal =>
          obtain ⟨hk3, hkp3, C', hC', hi3⟩ := hp
          obtain ⟨W4, hr, he4, hl4, hk4⟩ := fin none W3 hk3
          have h1 : Kept (fun b => ¬ D b ∧ b < W.heap.size) W Wa := hkk.imp (fun b hb => dc b hb.1)
          have h3 : Kept (fun b => ¬ D b ∧ b < W.heap.size) W2 W3 := hkp3.imp (fun b hb => ⟨dc b hb.1, hb.2⟩)
          refine ⟨_, _, hr, .inl ⟨rfl, (h1.trans ((kpe he2).trans (h3.trans (kpe he4)))).imp' (fun b hb hd => ⟨hd, hb⟩), fun b => C' b ∨ b = w.heap.size ∨ b = w.heap.size + 1, fun b hb => ?_, C', fun _ => Iff.rfl, hI _ _ _ _ hi3 (up he4), hl4, hk4⟩⟩
          rcases hb with h | h
          · rcases hC' b h with h | h
            · exact .inl ((hD b).2 (.inl h))
            · exact .inr h
          · exact .inl ((hD b).2 (.inr h))
        | ret =>
          obtain ⟨hk3, hi3⟩ := hp
          obtain ⟨W4, hr, he4, hl4, hk4⟩ := fin (some .ret) W3 hk3
          exact ⟨_, _, hr, .inr ⟨rfl, .ret, hIx _ _ _ hi3 (up he4), hl4, hk4⟩⟩
        | exit id =>
          obtain ⟨hk3, hi3⟩ := hp
          obtain ⟨W4, hr, he4, hl4, hk4⟩ := fin (some (.exit id)) W3 hk3
          exact ⟨_, _, hr, .inr ⟨rfl, .exit id, hIx _ _ _ hi3 (up he4), hl4, hk4⟩⟩
        | goto t =>
          obtain ⟨hk3, hi3⟩ := hp
          obtain ⟨W4, hr, he4, hl4, hk4⟩ := fin (some (.goto t)) W3 hk3
          exact ⟨_, _, hr, .inr ⟨rfl, .goto t, hIx _ _ _ hi3 (up he4), hl4, hk4⟩⟩
        | panic ch => exact hp.elim
        | outgrown => exact hp.elim
      | exit id => exact hp.elim
      | goto l => exact hp.elim
      | ret => exact hp.elim
      | panic chain => exact hp.elim
      | outgrown => exact hp.elim
    · -- behind the iterator
      have up : ∀ {A B : World}, EvB (fun i => i = w.heap.size ∨ i = w.heap.size + 1) A B → EvB (fun i => own i ∨ i = w.heap.size ∨ i = w.heap.size + 1) A B := fun h => h.imp (fun _ _ => .inr)
      rintro e W2 ⟨⟨v, rfl⟩, (⟨D, C, hD, hi, hl, hk⟩ | ⟨c, hi, hl, hk⟩)⟩
      · have hlt2 := (Array.getElem?_eq_some_iff.1 hl).1
        exact ⟨none, _, by have := run_endLoop (P := P) hl (by rw [hrec]; simp); rw [hrec] at this; exact this, hdone _ _ (hI _ _ _ _ hi (up ((EvB.refl _ _).putObj (.inr rfl) _))) (by simp; omega) ((World.putObj_heap_other (by omega)).trans hk)⟩
      · have hlt2 := (Array.getElem?_eq_some_iff.1 hl).1
        exact ⟨some c, _, by have := run_endLoop (P := P) hl (by rw [hrec]; simp); rw [hrec] at this; exact this, hstop c _ (hIx _ _ _ hi (up ((EvB.refl _ _).putObj (.inr rfl) _))) (by simp; omega) ((World.putObj_heap_other (by omega)).trans hk)⟩
/-- What an iterator has, and what its caller has. -/
structure Parts (H1 HI HC : Heap) : Prop where
  row : ∀ id e sz els, H1 id ≠ some (.row e sz els)
  i : ∀ id, HI id = H1 id ∨ HI id = none
  c : ∀ id, HC id = H1 id ∨ HC id = none
  apart : ∀ id, HI id = none ∨ HC id = none
  bi : ∀ id l, HI id = some (.box l) → ∀ p ∈ l, Bd (LV HI) p
  bc : ∀ id l, HC id = some (.box l) → ∀ p ∈ l, Bd (LV HC) p
/-- An iterator's contract, for what it has captured. -/
def IterC {α : Type} (P : Program) (gf : Nat) (caps : List PV) (HI : Heap) (encs : α → Array Value) (xs : List α) : Prop :=
  ∀ (w : World) (M : Nat → Nat → Prop) (σ : Nat → Gh) (cs : List Value) (C : Nat → Prop), HR w M σ HI → VL w (MU M σ HI) σ (LV HI) cs caps → (∀ b o, C b → M b o) →
    SeqJ P gf cs.toArray encs (fun b => ∃ i, HI i ≠ none ∧ (σ i).blk = b) C xs w
/-- A caller's state, between rounds. -/
structure RS (w0 : World) (MX : Nat → Nat → Prop) (a : Act) (envK : Env) (W : World) (H : Heap) (m : Nat) (σ : Nat → Gh) : Prop where
  hr : HR W MX σ H
  free : ∀ i, m ≤ i → H i = none
  env : ∀ t, VV W MX σ H (a.tmps.getD t undef) (envK t)
  bel : Below w0.heap.size w0 W
  own : ∀ id, H id ≠ none → w0.heap.size ≤ (σ id).blk
theorem RS.ev {w0 : World} {MX : Nat → Nat → Prop} {a : Act} {envK : Env} {A B : World} {H : Heap} {m : Nat} {σ : Nat → Gh} {X : Nat → Prop} (h : RS w0 MX a envK A H m σ) (he : EvB X A B) (hX : ∀ b o, X b → MX b o) (h0 : ∀ b, X b → w0.heap.size ≤ b) :
    RS w0 MX a envK B H m σ := by
  obtain ⟨h1, h2⟩ := h.hr.ev he (fun b o hm => Nat.lt_of_lt_of_le (h.hr.m0 b o hm) he.size) (fun b o _ _ hx => hX b o hx) (fun id hid hx => h.hr.sep id hid 0 (hX _ 0 hx)) (fun _ _ _ _ h => h) h.hr.sep
  exact ⟨h1, h.free, fun t => (h.env t).mono h2, h.bel.trans (he.below h.bel.size (fun k hk hx => by have := h0 k hx; omega)), h.own⟩
def NoRow (H : Heap) : Prop := ∀ id e sz els, H id ≠ some (.row e sz els)
theorem nr_nil : NoRow (fun _ => none) := fun _ _ _ _ h => by cases h
theorem nr_box {H : Heap} {i : Nat} {l : List PV} (h : NoRow H) : NoRow (hset H i (some (.box l))) := fun id e sz els he => by
  unfold hset at he
  split at he
  · cases he
  · exact h _ _ _ _ he
theorem sub_L {H1 : Heap} {G : List (Nat × HE)} (h : ∀ x ∈ G, H1 x.1 = some x.2) (id : Nat) : q1g G id = H1 id ∨ q1g G id = none := by
  cases he : q1g G id with
  | none => exact .inr rfl
  | some e => exact .inl (h _ (q5l he)).symm
theorem parts_L {H1 : Heap} {GI GC : List (Nat × HE)} (h0 : NoRow H1) (h1 : ∀ x ∈ GI, H1 x.1 = some x.2) (h2 : ∀ x ∈ GC, H1 x.1 = some x.2) (h3 : ∀ x ∈ GI, ∀ y ∈ GC, x.1 ≠ y.1)
    (h4 : ∀ id l, q1g GI id = some (.box l) → ∀ p ∈ l, Bd (LV (q1g GI)) p) (h5 : ∀ id l, q1g GC id = some (.box l) → ∀ p ∈ l, Bd (LV (q1g GC)) p) : Parts H1 (q1g GI) (q1g GC) := by
  refine ⟨h0, sub_L h1, sub_L h2, fun id => ?_, h4, h5⟩
  cases he : q1g GI id with
  | none => exact .inl rfl
  | some e =>
    cases hf : q1g GC id with
    | none => exact .inr rfl
    | some f => exact (h3 _ (q5l he) _ (q5l hf) rfl).elim
theorem env_ke {S : Nat → Prop} {env : Env} {E : List (Nat × PV)} (h : KE S env E) (t : Nat) : envL E t = .any ∨ (envL E t = env t ∧ Bd S (env t)) := by
  unfold envL
  split
  · rename_i x hx
    have h4 := List.find?_some hx
    have h5 := List.mem_of_find?_eq_some hx
    have : x.1 = t := by simpa using h4
    subst this
    obtain ⟨h6, h7⟩ := h x h5
    exact .inr ⟨h6.symm, by rw [h6]; exact h7⟩
  · exact .inl rfl
section
variable {P : Program}
/-- A function that ranges over a function. -/
theorem pure_range {α : Type} (hm : P.follows .mixedOrders = true) {f gf : FuncId} {fn : Func} {x z b : Code} {bid tg p : Nat} {assign body : Code} {args : List PV} {r : PV} {rs : List ResultVar} (encs : α → Value) (pvs : α → PV) (xs : List α)
    (ha : BdL (fun _ => False) args) (hf : P.funcs[f]? = some fn) (hrs : fn.results = rs.toArray) (hb : fn.body = some b) (hF : FrontS x (.block bid (.rangeFunc (.tmp tg) #[p] assign body)) z b) (heg : ∀ args w, (callFunc gf args).run P w = .ok (.enter gf args) w)
    (hn : args.length ≤ fn.ntmps) (hdx : q4o fn.ntmps x = true) (hdz : q4o fn.ntmps z = true) (hda : q4o fn.ntmps assign = true) (hdb : q4o fn.ntmps body = true) (hfz : q7v z = true) (hfa : q7v assign = true) (hfb : q7v body = true) (hp : p < fn.ntmps)
    (hpv : ∀ y w M σ L, VR w M σ L (encs y) (pvs y))
    (h : q0d P 0 x (fun ex env H1 m1 => ex = .normal ∧ ∃ (caps : List PV) (HI HC : Heap) (envK : Env) (Inv : Nat → Heap → Nat → Prop) (InvX : Heap → Nat → Prop),
      env tg = .fn (.func gf) [] caps ∧ IterC P gf caps HI (fun y => #[encs y]) xs ∧ Parts H1 HI HC ∧ (∀ t, envK t = .any ∨ (envK t = env t ∧ Bd (LV HC) (env t))) ∧ BdL (LV HI) caps ∧ Inv 0 HC m1 ∧
      (∀ k y H m, xs[k]? = some y → Inv k H m → q0d P 0 assign (fun ex env' H' m' => ex = .normal ∧ q0d P 0 body (fun ex _ H' m' => (ex = .normal ∧ Inv (k + 1) H' m') ∨ (ex = .ret ∧ InvX H' m')) env' H' m') (upd envK (some p) (pvs y)) H m) ∧
      (∀ H m, Inv xs.length H m → q0d P 0 z (retQ P rs (fun out H' _ => ∃ r', out = .ret r' ∧ Fz H' r' r)) envK H m) ∧
      (∀ H m, InvX H m → ∃ r', q8c P rs envK H = some r' ∧ Fz H r' r)) (q5a args) (fun _ => none) 0) : Pure P f args r := by
  intro w0 M0 σ0 L0 vs hM0 hvl
  have hmu : ∀ b o, MU M0 σ0 (fun _ => none) b o ↔ M0 b o := fun b o => by
    refine ⟨fun h => ?_, fun h => .inl h⟩
    rcases h with h | ⟨id, l, h1, _⟩ | ⟨id, e, sz, els, h1, _⟩
    · exact h
    · cases h1
    · cases h1
  have h0 : HR w0 M0 σ0 (fun _ => none) := ⟨hM0, fun id h => absurd rfl h, fun i j h => absurd rfl h, fun id l h => (by cases h), fun id e sz els h => (by cases h)⟩
  have hvl' : VL w0 (MU M0 σ0 (fun _ => none)) σ0 (LV fun _ => none) vs args := ⟨hvl.1, fun i v p hv hp => (hvl.2 i v p hv hp).bd (fun b o u _ h1 h2 => h1 ((hmu b o).1 h2)) (fun _ h => h.elim) (ha p (q3s hp))⟩
  refine (callsIn_wide (n := 0)).1 (callsIn_of_wp_marks hf hb trivial ?_ rfl)
  have hS0 := st_init (m := 0) (nt := fn.ntmps) h0 (fun _ _ => rfl) hvl' hn
  refine front_inS hm (fun _ _ => rfl) hF hdx hS0 h ?_
  intro a w env H1 m1 σ1 hq hS1
  obtain ⟨caps, HI, HC, envK, Inv, InvX, htg, hIt, hP, hK, hcaps, hI0, hrnd, hz, hxr⟩ := hq
  have hown1 : ∀ id, H1 id ≠ none → w0.heap.size ≤ (σ1 id).blk := fun id hid => by
    rcases hS1.fr.own id hid with h | ⟨j, h, _⟩
    · exact h
    · exact absurd rfl h
  have subI : ∀ id, HI id ≠ none → H1 id ≠ none := fun id hid => by rw [← (hP.i id).resolve_right hid]; exact hid
  have subC : ∀ id, HC id ≠ none → H1 id ≠ none := fun id hid => by rw [← (hP.c id).resolve_right hid]; exact hid
  have disj : ∀ i j, HI i ≠ none → HC j ≠ none → (σ1 i).blk ≠ (σ1 j).blk := fun i j hi hj e => by
    have := hS1.hr.inj i j (subI i hi) (subC j hj) e
    subst this
    rcases hP.apart i with h | h
    · exact hi h
    · exact hj h
  have boxC : ∀ id, HC id ≠ none → ∃ l, HC id = some (.box l) := fun id hid => by
    cases he : HC id with
    | none => exact absurd he hid
    | some e =>
      cases e with
      | box l => exact ⟨l, rfl⟩
      | row e sz els => exact absurd (by rw [← (hP.c id).resolve_right hid, he]) (hP.row id e sz els)
  have boxI : ∀ id, HI id ≠ none → ∃ l, HI id = some (.box l) := fun id hid => by
    cases he : HI id with
    | none => exact absurd he hid
    | some e =>
      cases e with
      | box l => exact ⟨l, rfl⟩
      | row e sz els => exact absurd (by rw [← (hP.i id).resolve_right hid, he]) (hP.row id e sz els)
  -- the iterator
  obtain ⟨MI, hMI⟩ : ∃ MI, MI = MU M0 σ1 HC := ⟨_, rfl⟩
  have hMC : ∀ b o, MI b o → M0 b o ∨ ∃ id, HC id ≠ none ∧ (σ1 id).blk = b := by
    subst hMI
    rintro b o (h | ⟨id, l, h1, h2⟩ | ⟨id, e, sz, els, h1, h2, _⟩)
    · exact .inl h
    · exact .inr ⟨id, by rw [h1]; simp, h2⟩
    · exact .inr ⟨id, by rw [h1]; simp, h2⟩
  have hCM : ∀ id, HC id ≠ none → ∀ o, MI (σ1 id).blk o := fun id hid o => by
    obtain ⟨l, hl⟩ := boxC id hid
    rw [hMI]; exact .inr (.inl ⟨id, l, hl, rfl⟩)
  obtain ⟨hrI, vrI⟩ := hS1.hr.part (M' := MI) (H' := HI) hP.row hP.i
    (fun b o hb => by
      rcases hMC b o hb with h | ⟨id, h1, h2⟩
      · exact hS1.hr.m0 b o h
      · rw [← h2]; exact hS1.hr.lt (subC id h1))
    (fun id hid o hb => by
      rcases hMC _ o hb with h | ⟨j, h1, h2⟩
      · exact hS1.hr.sep id (subI id hid) o h
      · exact disj id j hid h1 h2.symm)
    (fun b o hb => by
      rcases hMC b o hb with h | ⟨id, h1, h2⟩
      · exact .inl h
      · obtain ⟨l, hl⟩ := boxC id h1
        exact .inr (.inl ⟨id, l, by rw [← (hP.c id).resolve_right h1]; exact hl, h2⟩)) hP.bi
  have hv := hS1.eval (.tmp tg)
  simp only [rho] at hv
  rw [htg] at hv
  obtain ⟨cs, hev, hcs⟩ : ∃ cs : List Value, a.eval (.tmp tg) = .func (.func gf) #[] cs.toArray ∧ VL w (MU M0 σ1 H1) σ1 (LV H1) cs caps := by
    generalize a.eval (.tmp tg) = fv at hv
    cases hv with
    | fn _ fs cs _ _ l1 l2 r1 r2 =>
      have hfs : fs = [] := List.eq_nil_of_length_eq_zero l1
      subst hfs
      exact ⟨cs, rfl, l2, r2⟩
  obtain ⟨own, hown⟩ : ∃ own : Nat → Prop, own = fun b => ∃ i, HI i ≠ none ∧ (σ1 i).blk = b := ⟨_, rfl⟩
  have hseq : SeqJ P gf cs.toArray (fun y => #[encs y]) own (fun b => ∃ id, HC id ≠ none ∧ (σ1 id).blk = b) xs w := by
    rw [hown]
    exact hIt w MI σ1 cs _ hrI ⟨hcs.1, fun i v p hv hp => vrI v p (hcs.2 i v p hv hp) (hcaps p (q3s hp))⟩ (fun b o hb => by
      obtain ⟨j, hj, e⟩ := hb
      exact e ▸ hCM j hj o)
  have own_lt : ∀ k, own k → k < w.heap.size := fun k hk => by rw [hown] at hk; obtain ⟨i, h1, rfl⟩ := hk; exact hS1.hr.lt (subI i h1)
  have own_ge : ∀ k, own k → w0.heap.size ≤ k := fun k hk => by rw [hown] at hk; obtain ⟨i, h1, rfl⟩ := hk; exact hown1 i (subI i h1)
  have hw0 : w0.heap.size ≤ w.heap.size := hS1.fr.size
  -- the caller
  obtain ⟨X, hX⟩ : ∃ X : Nat → Prop, X = fun i => own i ∨ i = w.heap.size ∨ i = w.heap.size + 1 := ⟨_, rfl⟩
  have hXge : ∀ b, X b → w0.heap.size ≤ b := fun b hb => by rw [hX] at hb; rcases hb with h | h | h <;> first | exact own_ge b h | omega
  obtain ⟨MX, hMX⟩ : ∃ MX : Nat → Nat → Prop, MX = fun b o => M0 b o ∨ X b := ⟨_, rfl⟩
  have hXM : ∀ b o, X b → MX b o := fun b o hb => by rw [hMX]; exact .inr hb
  have noX : ∀ {W H m σ}, RS w0 MX a envK W H m σ → ∀ id, H id ≠ none → ¬ X (σ id).blk := fun h id hid hx => h.hr.sep id hid 0 (hXM _ _ hx)
  -- from a state to one behind code of the caller's
  have next : ∀ {A B : World} {H H' : Heap} {m m' : Nat} {σ σ' : Nat → Gh}, RS w0 MX a envK A H m σ → Fr A MX σ H B σ' H' → HR B MX σ' H' → (∀ i, m' ≤ i → H' i = none) → RS w0 MX a envK B H' m' σ' := fun h hf hr hfree =>
    ⟨hr, hfree, fun t => (h.env t).mono hf.ext, h.bel.trans (hf.evB.below h.bel.size (fun k hk ⟨i, h1, h2⟩ => by have := h.own i h1; omega)), fun id hid => by
      rcases hf.own id hid with g | ⟨j, g1, g2⟩
      · exact Nat.le_trans h.bel.size g
      · rw [← g2]; exact h.own j g1⟩
  -- the function's end
  have fin : ∀ {A W : World} {H H2 : Heap} {m m2 : Nat} {σ σ2 : Nat → Gh} {a2 : Act} {env2 : Env}, RS w0 MX a envK A H m σ → A.heap[w.heap.size]? = some (.deferred (some [])) → St A MX σ H m fn.ntmps [{ target := .collected w.heap.size, args := #[] }] a2 W env2 H2 m2 σ2 →
      (∃ r', q8c P rs env2 H2 = some r' ∧ Fz H2 r' r) → LeavesInM Fence.wide 0 P fn a2.tmps (fun e w' => ∃ v, e = .returned v ∧ VR w' M0 σ0 L0 v r ∧ Below w0.heap.size w0 w') a2.defers .returning W := by
    rintro A W H H2 m m2 σ σ2 a2 env2 hR hD hS ⟨r', hres, hfz'⟩
    have hR2 := next hR hS.fr hS.hr hS.free
    have hloop : ∀ id, H id ≠ none → (σ id).blk ≠ w.heap.size := fun id hid e => noX hR id hid (by rw [hX, e]; exact .inr (.inl rfl))
    have hD2 : W.heap[w.heap.size]? = some (.deferred (some [])) := (hS.fr.block _ (Array.getElem?_eq_some_iff.1 hD).1 hloop).trans hD
    rw [hS.defers]
    refine ⟨by simp, .inl ⟨_, _, rfl, run_takeDeferred hD2, ?_⟩⟩
    have he : EvB X W (W.putObj w.heap.size (.deferred none)) := (EvB.refl _ _).putObj (by rw [hX]; exact .inr (.inl rfl)) _
    have hR3 := hR2.ev he hXM hXge
    have henv : ∀ t, VV (W.putObj w.heap.size (.deferred none)) MX σ2 H2 (a2.tmps.getD t undef) (env2 t) := fun t => (hS.env t).mono (hR2.hr.ev he (fun b o hm => Nat.lt_of_lt_of_le (hR2.hr.m0 b o hm) he.size) (fun b o _ _ hx => hXM b o hx) (noX hR2) (fun _ _ _ _ h => h) hR2.hr.sep).2
    obtain ⟨v, hv1, hv2⟩ := q9u (fn := fn) (P := P) (a := a2) hR3.hr henv (by rw [hrs]; exact hres)
    exact ⟨v, hv1, v, rfl, fz_sound hR3.hr (fun b o u _ h1 h2 => h1 (.inl (by rw [hMX]; exact .inl h2))) (fun id hid o hm => hR3.hr.sep id hid o (by rw [hMX]; exact .inl hm)) hv2 hfz', hR3.bel⟩
  have start : ∀ B, EvB X w B → w.heap.size + 2 ≤ B.heap.size → RS w0 MX a envK B HC m1 σ1 := fun B he hsz => by
    obtain ⟨M', hM'⟩ : ∃ M' : Nat → Nat → Prop, M' = fun b o => M0 b o ∨ own b := ⟨_, rfl⟩
    have ownBox : ∀ b, own b → ∃ id l, H1 id = some (.box l) ∧ (σ1 id).blk = b := fun b hb => by
      rw [hown] at hb
      obtain ⟨i, h1, h2⟩ := hb
      obtain ⟨l, hl⟩ := boxI i h1
      exact ⟨i, l, by rw [← (hP.i i).resolve_right h1]; exact hl, h2⟩
    have ownC : ∀ id, HC id ≠ none → ¬ own (σ1 id).blk := fun id hid ho => by
      rw [hown] at ho
      obtain ⟨i, h1, h2⟩ := ho
      exact disj i id h1 hid h2
    obtain ⟨hrC, vrC⟩ := hS1.hr.part (M' := M') (H' := HC) hP.row hP.c
      (fun b o hb => by rw [hM'] at hb; exact hb.elim (fun h => hS1.hr.m0 b o h) (fun h => own_lt b h))
      (fun id hid o hb => by rw [hM'] at hb; exact hb.elim (fun h => hS1.hr.sep id (subC id hid) o h) (fun h => ownC id hid h))
      (fun b o hb => by
        rw [hM'] at hb
        rcases hb with h | h
        · exact .inl h
        · obtain ⟨i, l, h1, h2⟩ := ownBox b h
          exact .inr (.inl ⟨i, l, h1, h2⟩)) hP.bc
    have cX : ∀ b o v, w.cell? ⟨b, o, none⟩ = some v → X b → own b := fun b o v hc hx => by
      have := q3p hc
      rw [hX] at hx; rcases hx with h | h | h <;> first | exact h | omega
    have xC : ∀ id, HC id ≠ none → ¬ X (σ1 id).blk := fun id hid hx => by
      have := hS1.hr.lt (subC id hid)
      rw [hX] at hx; rcases hx with h | h | h
      · exact ownC id hid h
      · omega
      · omega
    obtain ⟨h1, h2⟩ := hrC.ev (M' := MX) he
      (fun b o hb => by
        rw [hMX] at hb
        rcases hb with h | h
        · exact Nat.lt_of_lt_of_le (hS1.hr.m0 b o h) he.size
        · have := he.size
          rw [hX] at h; rcases h with h | h | h
          · have := own_lt b h; omega
          · omega
          · omega)
      (fun b o v hc hx => by rw [hM']; exact .inr (cX b o v hc hx)) xC
      (fun b o v hc hb => by
        rw [hMX] at hb; rw [hM']
        rcases hb with h | h
        · exact .inl h
        · exact .inr (cX b o v hc h))
      (fun id hid o hb => by rw [hMX] at hb; exact hb.elim (fun h => hS1.hr.sep id (subC id hid) o h) (fun h => xC id hid h))
    refine ⟨h1, ?_, fun t => ?_, ?_, fun id hid => hown1 id (subC id hid)⟩
    · intro i hi
      rcases hP.c i with g | g
      · rw [g]; exact hS1.free i hi
      · exact g
    · rcases hK t with g | ⟨g, gb⟩
      · rw [g]; exact .any _
      · rw [g]; exact (vrC _ _ (hS1.env t) gb).mono h2
    · have b1 : Below w0.heap.size w0 w := ⟨hS1.fr.os, hS1.fr.tape, hS1.fr.output, hS1.fr.size, fun k hk => hS1.fr.block k hk (fun id h => absurd rfl h)⟩
      exact b1.trans (he.below hw0 (fun k hk hx => by have := hXge k hx; omega))
  refine wpIn_block ?_
  refine range_law2 (gf := gf) (lb := cs.toArray) hev heg hseq (fun _ => rfl) own_lt (fun k hk => by obtain ⟨id, h1, h2⟩ := hk; rw [← h2]; exact hS1.hr.lt (subC id h1))
    (fun k C W => (∀ b, C b → b < W.heap.size) ∧ ∀ B, EvB X W B → w.heap.size + 2 ≤ B.heap.size → ∃ H m σ, (∀ b, C b ↔ ∃ id, H id ≠ none ∧ (σ id).blk = b) ∧ Inv k H m ∧ RS w0 MX a envK B H m σ)
    (fun c W => c = .ret ∧ ∀ B, EvB X W B → w.heap.size + 2 ≤ B.heap.size → ∃ H m σ, InvX H m ∧ RS w0 MX a envK B H m σ)
    (fun k C A h => h.1) ?hI ?hIx ?h0 ?round ?done ?stop
  case hI =>
    rintro k C A B ⟨hC, hA⟩ he
    exact ⟨fun b hb => Nat.lt_of_lt_of_le (hC b hb) he.size, fun D hD hsz => hA D (EvB.trans (by rw [hX]; exact he) hD) hsz⟩
  case hIx =>
    rintro c A B ⟨rfl, hA⟩ he
    exact ⟨rfl, fun C hC hsz => hA C (EvB.trans (by rw [hX]; exact he) hC) hsz⟩
  case h0 => exact ⟨fun b ⟨id, h1, h2⟩ => by rw [← h2]; exact hS1.hr.lt (subC id h1), fun B he hsz => ⟨HC, m1, σ1, fun b => Iff.rfl, hI0, start B he hsz⟩⟩
  case round =>
    rintro k C y W hy ⟨hCl, hIk⟩ hsz
    obtain ⟨H, m, σ, hCH, hinv, hR⟩ := hIk W (EvB.refl _ _) hsz
    have hpw := hrnd k y H m hy hinv
    have hSr : St W MX σ H m fn.ntmps [] { tmps := ((#[p] : Array Nat).zip #[encs y]).foldl (fun t (p, v) => t.setIfInBounds p v) a.tmps, defers := [] } W (upd envK (some p) (pvs y)) H m σ := by
      have ht : ((#[p] : Array Nat).zip #[encs y]).foldl (fun t (p, v) => t.setIfInBounds p v) a.tmps = (a.put (some p) (encs y)).tmps := by simp [Act.put]
      rw [ht]
      refine ⟨hR.hr, hR.free, Nat.le_refl _, Fr.refl _ _ _ _, by rw [put_size]; exact hS1.size, rfl, fun t => ?_⟩
      have := put_get a (some p) (encs y) (fun z hz => by cases hz; rw [hS1.size]; exact hp) t
      simp only at this ⊢
      rw [this]
      unfold upd
      simp only
      by_cases hpt : p = t
      · subst hpt; simp; exact hpv y _ _ _ _
      · have h1 : ¬ (some p = some t) := fun h => hpt (Option.some.inj h)
        rw [if_neg h1]
        simp only [Ne.symm hpt, if_false]
        exact hR.env t
    have hfree : ∀ i, m ≤ i → H i = none := hR.free
    rw [q9z (m1 := m) _ _ hfa] at hpw
    refine wpIn_mono (pwCode_round hm assign _ _ W _ H m σ hfa hda hSr hpw) ?_
    rintro e a1 W1 ⟨ex, env1, H2, m2, σ2, ⟨rfl, hbody⟩, hS2, hx⟩
    cases e <;> first | exact hx.elim | skip
    clear hx
    have hR2 := next hR hS2.fr hS2.hr hS2.free
    have loops : ∀ {W H m σ}, RS w0 MX a envK W H m σ → ∀ id, H id ≠ none → ¬ ((σ id).blk = w.heap.size ∨ (σ id).blk = w.heap.size + 1) := fun h id hid e => noX h id hid (by rw [hX]; exact .inr e)
    refine ⟨hS2.fr.kept (loops hR), hS2.fr.kept (fun id hid hn => hn ((hCH _).2 ⟨id, hid, rfl⟩)), fun W2 he => ?_⟩
    have hC2 : ∀ id, H2 id ≠ none → C (σ2 id).blk ∨ W.heap.size ≤ (σ2 id).blk := fun id hid => by
      rcases hS2.fr.own id hid with g | ⟨j, g1, g2⟩
      · exact .inr g
      · exact .inl ((hCH _).2 ⟨j, g1, g2⟩)
    have he2 : EvB X W1 W2 := he.imp (fun k _ hk => by rw [hX]; exact .inr hk)
    have hR3 := hR2.ev he2 hXM hXge
    have hext := (hR2.hr.ev he2 (fun b o hm => Nat.lt_of_lt_of_le (hR2.hr.m0 b o hm) he2.size) (fun b o _ _ hx => hXM b o hx) (noX hR2) (fun _ _ _ _ h => h) hR2.hr.sep).2
    have hS3 : St W2 MX σ2 H2 m2 fn.ntmps [] a1 W2 env1 H2 m2 σ2 := ⟨hR3.hr, hR3.free, Nat.le_refl _, Fr.refl _ _ _ _, hS2.size, hS2.defers, fun t => (hS2.env t).mono hext⟩
    rw [q9z (m1 := m2) _ _ hfb] at hbody
    refine wpIn_mono (pwCode_round hm body _ _ W2 _ H2 m2 σ2 hfb hdb hS3 hbody) ?_
    rintro e a3 W3 ⟨ex, env3, H4, m4, σ4, hq, hS4, hx⟩
    have hR4 := next hR3 hS4.fr hS4.hr hS4.free
    rcases hq with ⟨rfl, hq⟩ | ⟨rfl, hq⟩
    · cases e <;> first | exact hx.elim | skip
      have hsz2 : W.heap.size ≤ W2.heap.size := Nat.le_trans hS2.fr.size he.size
      refine ⟨hS4.fr.kept (loops hR3), hS4.fr.kept (fun id hid hn => ?_), fun b => ∃ id, H4 id ≠ none ∧ (σ4 id).blk = b, ?_, fun b ⟨id, h1, h2⟩ => by rw [← h2]; exact hS4.hr.lt h1, fun B hB hszB => ⟨H4, m4, σ4, fun b => Iff.rfl, hq, hR4.ev hB hXM hXge⟩⟩
      · rcases hC2 id hid with h | h
        · exact hn.1 h
        · have := hn.2; omega
      · rintro b ⟨id, h1, rfl⟩
        rcases hS4.fr.own id h1 with g | ⟨j, g1, g2⟩
        · exact .inr (by omega)
        · rw [← g2]; exact hC2 j g1
    · cases e <;> first | exact hx.elim | skip
      exact ⟨hS4.fr.kept (loops hR3), rfl, fun B hB hszB => ⟨H4, m4, σ4, hq, hR4.ev hB hXM hXge⟩⟩
  case done =>
    rintro C W ⟨_, hI⟩ hsz hD
    obtain ⟨H, m, σ, _, hinv, hR⟩ := hI W (EvB.refl _ _) hsz
    have hpz := hz H m hinv
    rw [q9z (m1 := m) _ _ hfz] at hpz
    have hSz : St W MX σ H m fn.ntmps [{ target := .collected w.heap.size, args := #[] }] { a with defers := { target := .collected w.heap.size, args := #[] } :: a.defers } W envK H m σ := ⟨hR.hr, hR.free, Nat.le_refl _, Fr.refl _ _ _ _, hS1.size, by simp [hS1.defers], hR.env⟩
    show z.wpIn Fence.wide 0 P _ _ W
    refine wpIn_wide.2 (wp_mono (q3i hm hR.free z _ _ W _ H m σ hdz hSz hpz) ?_)
    rintro e a3 W3 ⟨ex, env3, H4, m4, σ4, hq, hS4, hx⟩
    cases e with
    | normal =>
      cases ex <;> first | exact hx.elim | skip
      simp only [retQ] at hq
      split at hq
      · rename_i r1 hres
        obtain ⟨r', h1, h2⟩ := hq
        cases h1
        exact fin hR hD hS4 ⟨r1, hres, h2⟩
      · exact hq.elim
    | ret =>
      cases ex <;> first | exact hx.elim | skip
      simp only [retQ] at hq
      split at hq
      · rename_i r1 hres
        obtain ⟨r', h1, h2⟩ := hq
        cases h1
        exact fin hR hD hS4 ⟨r1, hres, h2⟩
      · exact hq.elim
    | panic ch =>
      cases ex <;> first | exact hx.elim | skip
      obtain ⟨_, h1, _⟩ := hq
      cases h1
    | exit id => cases ex <;> first | exact hx.elim | exact hq.elim
    | goto l => cases ex <;> exact hx.elim
    | outgrown => cases ex <;> exact hx.elim
  case stop =>
    rintro c W ⟨rfl, hI⟩ hsz hD
    obtain ⟨H, m, σ, hinv, hR⟩ := hI W (EvB.refl _ _) hsz
    have hSz : St W MX σ H m fn.ntmps [{ target := .collected w.heap.size, args := #[] }] { a with defers := { target := .collected w.heap.size, args := #[] } :: a.defers } W envK H m σ := ⟨hR.hr, hR.free, Nat.le_refl _, Fr.refl _ _ _ _, hS1.size, by simp [hS1.defers], hR.env⟩
    exact wpIn_ret (fin hR hD hSz (hxr H m hinv))
end
end Go.Proofs.YtoibbedpaaeclaaGreat
end

section
namespace Go.Proofs.YtoibbedpaaeclaaGreat
open Go Go.RowKit
set_option linter.unusedVariables false
set_option linter.unusedSimpArgs false
section
variable {P : Program} {w0 : World} {M0 : Nat → Nat → Prop} {σ0 : Nat → Gh} {H0 : Heap} {m0 nt : Nat} {ds : List Deferred}
theorem rowsIn_plain {n : Nat} {row : String} {args : Array Value} {w : World} {R : Value → World → Prop} (h : Rows P row args w R) : RowsIn Fence.wide n P row args w R :=
  fun c cs _ => let ⟨v, w', r, s⟩ := h c cs; ⟨v, w', r, stepsIn_wide.2 s⟩
theorem upon_plain {o : Oper} {a : Act} {K K' : Act → World → Prop} {Q Q' : Exit → Act → World → Prop} (hK : ∀ a w, K a w → K' a w) (hp : ∀ ch a w, ¬ Q (.panic ch) a w) (hL : ¬ LetsOut Q) {r : Result Next} (h : o.upon P a K Q r) : o.uponIn Fence.wide 0 P a K' Q' r := by
  cases r with
  | ok x w' =>
    cases x with
    | value v => exact hK _ _ h
    | skip => exact hK _ _ h
    | defer d => exact hK _ _ h
    | enter f args =>
      refine ⟨fun h => by simp [Fence.wide] at h, CallsIn.mono (callsIn_wide.2 h) ?_⟩
      intro e w'' hr
      cases e with
      | returned v => exact hK _ _ hr
      | panicked c => exact absurd hr (hp _ _ _)
      | outgrown => exact absurd hr hL
    | row row args =>
      refine ⟨fun h => by simp [Fence.wide] at h, rowsIn_plain (Rows.mono h ?_)⟩
      intro v w'' hr
      exact hK _ _ hr
    | _ => exact False.elim h
  | halt x w' =>
    cases x with
    | panic v => exact absurd h (hp _ _ _)
    | _ => exact False.elim h
theorem list_in {ops : Array Oper} {R : Exit → Act → World → Prop} {K : Env → Heap → Nat → Prop} {l2 : List Oper} : ∀ (l1 : List Oper) {a : Act} {w : World} {env : Env} {H : Heap} {m : Nat} {σ : Nat → Gh}, St w0 M0 σ0 H0 m0 nt ds a w env H m σ → (∀ o ∈ l1, ∀ x, o.dst = some x → x < nt) →
    l1.all (fun o => match o.op with | .defer _ => false | _ => true) = true → q0i P ops (fun ex env' H' m' => ex = .normal ∧ K env' H' m') l1 env H m →
    (∀ a' w' env' H' m' σ', K env' H' m' → St w0 M0 σ0 H0 m0 nt ds a' w' env' H' m' σ' → wpListIn Fence.wide 0 P ops R l2 a' w') → wpListIn Fence.wide 0 P ops R (l1 ++ l2) a w
  | [], a, w, env, H, m, σ, hS, _, _, h, k => k a w env H m σ h.2 hS
  | o :: l1, a, w, env, H, m, σ, hS, hd, hf, h, k => by
    rw [List.all_cons, Bool.and_eq_true] at hf
    have hod : ∀ c, o.op ≠ .defer c := by
      intro c hc
      have := hf.1
      rw [hc] at this
      simp at this
    have := q8z (P := P) hS (hd o (by simp)) (K' := wpListIn Fence.wide 0 P ops R (l1 ++ l2)) (fun a' w' env' H' m' σ' hk hS' => list_in l1 hS' (fun o' ho' => hd o' (by simp [ho'])) hf.2 hk k) h
    show wpListIn Fence.wide 0 P ops R (o :: (l1 ++ l2)) a w
    unfold wpListIn
    split
    · rename_i hw
      rw [if_pos hw] at this
      refine ⟨fun f _ => trivial, ?_⟩
      rw [Oper.semAt_eq _ _ _ hod]
      refine upon_plain (fun _ _ h => h) ?_ qq_outs this
      rintro ch a' w' ⟨ex, env', H', m', σ', ⟨rfl, _⟩, _, hF⟩
      exact hF.elim
    · rename_i hw
      rw [if_neg hw] at this
      exact ⟨fun f _ => trivial, this⟩
theorem yield_sem {o : Oper} {c : Call} {y : Operand} {l : Nat} {a : Act} {W : World} (ho : o.op = .call c) (hc : c.callee = .value y) (hy : a.eval y = .func (.yield l) #[] #[]) : (Oper.semAt none a.eval o).run P W = (Instr.yield l (c.args.map a.eval)).run P W := by
  obtain ⟨dst, op, ty, pos, after, guard⟩ := o
  simp only at ho
  subst ho
  simp [Oper.semAt_none, execOp, resolve, hc, Deferred.ofValue, hy, invoke]
theorem yield_in {ops : Array Oper} {R : Exit → Act → World → Prop} {l2 : List Oper} {o : Oper} {c : Call} {y : Operand} {l : Nat} {a : Act} {W : World} {R' : Ending → World → Prop} {vs : Array Value} (hw : Region.wanted o (yielded ops a.tmps) = true) (ho : o.op = .call c) (hc : c.callee = .value y)
    (hy : a.eval y = .func (.yield l) #[] #[]) (hvs : c.args.map a.eval = vs) (hY : YieldAt Fence.wide 0 P l vs W R') (k : ∀ e W', R' e W' → ∃ v, e = .returned v ∧ wpListIn Fence.wide 0 P ops R l2 (a.put o.dst v) W') : wpListIn Fence.wide 0 P ops R (o :: l2) a W := by
  unfold wpListIn
  rw [if_pos hw]
  refine ⟨fun f _ => trivial, ?_⟩
  show o.uponIn Fence.wide 0 P a _ R ((Oper.semAt none a.eval o).run P W)
  rw [yield_sem ho hc hy, hvs]
  exact q6c hY k
theorem loop_n_in {F : Fence} {k : Nat} {c : Code} {Q : Exit → Act → World → Prop} {a : Act} {w : World} (I : Nat → Act → World → Prop) (n : Nat) (h₀ : I n a w)
    (round : ∀ n a w, I n a w → c.wpIn F k P (Exit.then (fun a' w' => ∃ n', n' < n ∧ I n' a' w') Q) a w) : (Code.loop c).wpIn F k P Q a w := by
  intro b ks cs hro hb hr
  have key : ∀ n a w, I n a w → ∃ e a' w', Q e a' w' ∧ ArrivesIn (Machine.fenced P F) P (lone (b.atR a (.code c :: .inLoop c :: ks)) cs w) b ks cs e a' w' := by
    intro n
    induction n using Nat.strongRecOn with
    | _ n ih =>
      intro a w hI
      obtain ⟨e, a₁, w₁, hq, harr⟩ := round n a w hI b (.inLoop c :: ks) cs hro hb hr
      cases e with
      | normal =>
        obtain ⟨n', hlt, hI₁⟩ := hq
        obtain ⟨e₂, a₂, w₂, hq₂, harr₂⟩ := ih n' hlt a₁ w₁ hI₁
        exact ⟨e₂, a₂, w₂, hq₂, .of_steps (StepsIn.trans harr (.one (fenced_calm hb hr rfl) stepR_inLoop)) harr₂⟩
      | exit id => exact ⟨_, a₁, w₁, hq, .pass (x := .inLoop c) rfl (fun _ _ => .inl (by simp)) harr⟩
      | goto l => exact ⟨_, a₁, w₁, hq, .pass (x := .inLoop c) rfl (fun _ _ => .inl (by simp)) harr⟩
      | ret => exact ⟨_, a₁, w₁, hq, .pass (x := .inLoop c) rfl (fun _ _ => .inl (by simp)) harr⟩
      | panic ch => exact ⟨_, a₁, w₁, hq, .pass (x := .inLoop c) rfl (fun _ _ => .inl (by simp)) harr⟩
      | outgrown => exact ⟨_, a₁, w₁, hq, .pass (x := .inLoop c) rfl (fun _ _ => .inl (by simp)) harr⟩
  obtain ⟨e, a', w', hq, harr⟩ := key n a w h₀
  exact ⟨e, a', w', hq, .of_steps (.one (fenced_calm hb hr rfl) stepR_loop) harr⟩
theorem wk_keepK {m : Nat} {G : List (Nat × HE)} {env : Env} {H : Heap} {m1 : Nat} {E : List (Nat × PV)} (hG : ∀ i, m ≤ i → q1g G i = none) (hB : ∀ i l, q1g G i = some (.box l) → ∀ p ∈ l, Bd (LV (q1g G)) p) (hR : ∀ i e sz els, q1g G i ≠ some (.row e sz els)) (hk : q3c m G env H E) : Wk m env H m1 (envL E) (q1g G) m := by
  obtain ⟨h1, h2⟩ := hk
  refine ⟨Nat.le_refl _, fun i => ?_, hG, fun t => ?_, hB, fun i e sz els h => absurd h (hR i e sz els)⟩
  · by_cases hi : i < m
    · exact .inl (h1 i hi).symm
    · exact .inr ⟨Nat.le_of_not_lt hi, hG i (Nat.le_of_not_lt hi)⟩
  · unfold envL
    split
    · rename_i x hx
      have h4 := List.find?_some hx
      have h5 := List.mem_of_find?_eq_some hx
      have : x.1 = t := by simpa using h4
      subst this
      obtain ⟨h6, h7⟩ := h2 x h5
      exact .inr ⟨h6.symm, by rw [h6]; exact h7⟩
    · exact .inl rfl
/-- Behind a yield (or a piece of code): what is kept, in the world that there is now. -/
theorem st_yield {W W1 W' : World} {Mi : Nat → Nat → Prop} {C C' : Nat → Prop} {σ σ1 : Nat → Gh} {G : List (Nat × HE)} {m m1 : Nat} {a : Act} {env1 : Env} {H1 : Heap} {E : List (Nat × PV)} (hG : ∀ i, m ≤ i → q1g G i = none) (hB : ∀ i l, q1g G i = some (.box l) → ∀ p ∈ l, Bd (LV (q1g G)) p)
    (hR : ∀ i e sz els, q1g G i ≠ some (.row e sz els)) (hS : St W (fun b o => Mi b o ∨ C b) σ (q1g G) m nt ds a W1 env1 H1 m1 σ1) (hk : q3c m G env1 H1 E) (hy : Kept (fun b => ¬ C b) W1 W') (hC : ∀ b, C' b → C b ∨ W1.heap.size ≤ b) (hC' : ∀ b, C' b → b < W'.heap.size) :
    St W' (fun b o => Mi b o ∨ C' b) σ1 (q1g G) m nt ds a W' (envL E) (q1g G) m σ1 := by
  have hS2 := hS.weaken hG (wk_keepK (m1 := m1) hG hB hR hk)
  have he : EvB C W1 W' := ⟨hy.os, hy.tape, hy.output, hy.size, fun k hk hc => hy.block k hk hc⟩
  have hsepC : ∀ id, q1g G id ≠ none → ¬ C (σ1 id).blk := fun id hid hc => hS2.hr.sep id hid 0 (.inr hc)
  obtain ⟨h1, h2⟩ := hS2.hr.ev (M' := fun b o => Mi b o ∨ C' b) he
    (fun b o hb => by
      rcases hb with h | h
      · exact Nat.lt_of_lt_of_le (hS2.hr.m0 b o (.inl h)) hy.size
      · exact hC' b h)
    (fun b o v hc hx => .inr hx) hsepC
    (fun b o v hc hb => by
      rcases hb with h | h
      · exact .inl h
      · rcases hC b h with h | h
        · exact .inr h
        · have := q3p hc; omega)
    (fun id hid o hb => by
      rcases hb with h | h
      · exact hS2.hr.sep id hid o (.inl h)
      · rcases hC _ h with h | h
        · exact hsepC id hid h
        · have := hS2.hr.lt hid; omega)
  exact ⟨h1, hG, Nat.le_refl _, Fr.refl _ _ _ _, hS2.size, hS2.defers, fun t => (hS2.env t).mono h2⟩
/-- Boxes stay at their blocks. -/
theorem st_same {W W1 : World} {M : Nat → Nat → Prop} {σ σ1 : Nat → Gh} {H H1 : Heap} {m m1 : Nat} {a : Act} {env : Env} (h0 : HR W M σ H) (hR : ∀ i e sz els, H i ≠ some (.row e sz els)) (hS : St W M σ H m nt ds a W1 env H1 m1 σ1) (i : Nat) (hi : H i ≠ none) : σ1 i = σ i := by
  obtain ⟨_, h | ⟨h, _⟩⟩ := hS.fr.ext.gh i hi
  · exact h
  · exfalso
    cases he : H i with
    | none => exact hi he
    | some e =>
      cases e with
      | box l => have := (h0.box i l he).1; omega
      | row e sz els => exact hR i e sz els he
end
/-- A state within an iterator: where it began, and what is known now. -/
def ItS (Jk : World → Prop) (Mi : Nat → Nat → Prop) (C : Nat → Prop) (G : List (Nat × HE)) (m nt : Nat) (σ0 : Nat → Gh) (a : Act) (W1 : World) (env : Env) (H : Heap) (m1 : Nat) : Prop :=
  ∃ W σ σ1, Jk W ∧ HR W (fun b o => Mi b o ∨ C b) σ (q1g G) ∧ St W (fun b o => Mi b o ∨ C b) σ (q1g G) m nt [] a W1 env H m1 σ1 ∧ ∀ i, q1g G i ≠ none → σ i = σ0 i
section
variable {P : Program} {Jk : World → Prop} {own : Nat → Prop} {Mi : Nat → Nat → Prop} {C : Nat → Prop} {G : List (Nat × HE)} {m nt : Nat} {σ0 : Nat → Gh} {a : Act} {W1 : World} {env : Env} {H : Heap} {m1 : Nat}
structure ItG (G : List (Nat × HE)) (m : Nat) : Prop where
  g : ∀ i, m ≤ i → q1g G i = none
  b : ∀ i l, q1g G i = some (.box l) → ∀ p ∈ l, Bd (LV (q1g G)) p
  r : ∀ i e sz els, q1g G i ≠ some (.row e sz els)
theorem ItS.now (hst : ∀ A B, Jk A → EvB own A B → Jk B) (ho : ∀ i, q1g G i ≠ none → own (σ0 i).blk) (h : ItS Jk Mi C G m nt σ0 a W1 env H m1) : Jk W1 := by
  obtain ⟨W, σ, σ1, hj, hr, hS, hs⟩ := h
  exact hst _ _ hj (hS.fr.evB.imp (fun k _ ⟨i, h1, h2⟩ => by rw [← h2, hs i h1]; exact ho i h1))
theorem it_seg (hm : P.follows .mixedOrders = true) (hG : ItG G m) {R : Exit → Act → World → Prop} {K : Env → Heap → Nat → Prop} {c z : Code} (hd : q4o nt c = true) (hS : ItS Jk Mi C G m nt σ0 a W1 env H m1) (h : q0d P m c (fun ex env' H' m' => ex = .normal ∧ K env' H' m') env H m1)
    (k : ∀ a' W' env' H' m', K env' H' m' → ItS Jk Mi C G m nt σ0 a' W' env' H' m' → z.wpIn Fence.wide 0 P R a' W') : (c.seq z).wpIn Fence.wide 0 P R a W1 := by
  obtain ⟨W, σ, σ1, hj, hr, hS, hs⟩ := hS
  exact front_in hm hG.g .one hd hS h (fun a' w' env' H' m' σ' hk hS' => k a' w' env' H' m' hk ⟨W, σ, σ', hj, hr, hS', hs⟩)
theorem it_seg2 (hm : P.follows .mixedOrders = true) (hG : ItG G m) {R : Exit → Act → World → Prop} {K : Env → Heap → Nat → Prop} {c1 c2 z : Code} (hd : q4o nt (c1.seq c2) = true) (hS : ItS Jk Mi C G m nt σ0 a W1 env H m1) (h : q0d P m (c1.seq c2) (fun ex env' H' m' => ex = .normal ∧ K env' H' m') env H m1)
    (k : ∀ a' W' env' H' m', K env' H' m' → ItS Jk Mi C G m nt σ0 a' W' env' H' m' → z.wpIn Fence.wide 0 P R a' W') : (c1.seq (c2.seq z)).wpIn Fence.wide 0 P R a W1 := by
  obtain ⟨W, σ, σ1, hj, hr, hS, hs⟩ := hS
  exact front_in hm hG.g (.more .one) hd hS h (fun a' w' env' H' m' σ' hk hS' => k a' w' env' H' m' hk ⟨W, σ, σ', hj, hr, hS', hs⟩)
theorem ItS.defers (h : ItS Jk Mi C G m nt σ0 a W1 env H m1) : a.defers = [] := by
  obtain ⟨W, σ, σ1, hj, hr, hS, hs⟩ := h
  exact hS.defers
theorem it_last (hm : P.follows .mixedOrders = true) (hG : ItG G m) {R : Exit → Act → World → Prop} {K : Env → Heap → Nat → Prop} {c : Code} (hd : q4o nt c = true) (hS : ItS Jk Mi C G m nt σ0 a W1 env H m1) (h : q0d P m c (fun ex env' H' m' => ex = .normal ∧ K env' H' m') env H m1)
    (k : ∀ a' W' env' H' m', K env' H' m' → ItS Jk Mi C G m nt σ0 a' W' env' H' m' → R .normal a' W') : c.wpIn Fence.wide 0 P R a W1 := by
  obtain ⟨W, σ, σ1, hj, hr, hS, hs⟩ := hS
  refine wpIn_wide.2 (wp_mono (q3i hm hG.g _ _ a W1 env H m1 σ1 hd hS h) ?_)
  rintro e a' w' ⟨ex, env', H', m', σ', ⟨rfl, hq⟩, hS', hx⟩
  cases e <;> first | exact hx.elim | skip
  exact k _ _ _ _ _ hq ⟨W, σ, σ', hj, hr, hS', hs⟩
theorem it_list {ops : Array Oper} {R : Exit → Act → World → Prop} {K : Env → Heap → Nat → Prop} {l2 : List Oper} (l1 : List Oper) (hS : ItS Jk Mi C G m nt σ0 a W1 env H m1) (hd : ∀ o ∈ l1, ∀ x, o.dst = some x → x < nt) (hf : l1.all (fun o => match o.op with | .defer _ => false | _ => true) = true)
    (h : q0i P ops (fun ex env' H' m' => ex = .normal ∧ K env' H' m') l1 env H m1) (k : ∀ a' W' env' H' m', K env' H' m' → ItS Jk Mi C G m nt σ0 a' W' env' H' m' → wpListIn Fence.wide 0 P ops R l2 a' W') : wpListIn Fence.wide 0 P ops R (l1 ++ l2) a W1 := by
  obtain ⟨W, σ, σ1, hj, hr, hS, hs⟩ := hS
  exact list_in l1 hS hd hf h (fun a' w' env' H' m' σ' hk hS' => k a' w' env' H' m' hk ⟨W, σ, σ', hj, hr, hS', hs⟩)
theorem ItS.bl (h : ItS Jk Mi C G m nt σ0 a W1 env H m1) {t : Nat} {b : Bool} (ht : env t = .bool b) : a.eval (.tmp t) = .bool b := by
  obtain ⟨W, σ, σ1, hj, hr, hS, hs⟩ := h
  have hv := hS.eval (.tmp t)
  simp only [rho] at hv
  rw [ht] at hv
  generalize a.eval (.tmp t) = u at hv
  cases hv; rfl
theorem ItS.int (h : ItS Jk Mi C G m nt σ0 a W1 env H m1) {t : Nat} {k : IntKind} {n : Int} (ht : env t = .int k n) : a.eval (.tmp t) = .int k n := by
  obtain ⟨W, σ, σ1, hj, hr, hS, hs⟩ := h
  have hv := hS.eval (.tmp t)
  simp only [rho] at hv
  rw [ht] at hv
  generalize a.eval (.tmp t) = u at hv
  cases hv; rfl
theorem ItS.yld (h : ItS Jk Mi C G m nt σ0 a W1 env H m1) {t l : Nat} (ht : env t = .fn (.yield l) [] []) : a.eval (.tmp t) = .func (.yield l) #[] #[] := by
  obtain ⟨W, σ, σ1, hj, hr, hS, hs⟩ := h
  have hv := hS.eval (.tmp t)
  simp only [rho] at hv
  rw [ht] at hv
  generalize a.eval (.tmp t) = u at hv
  cases hv with
  | fn _ fs cs _ _ l1 l2 r1 r2 =>
    have h1 : fs = [] := List.eq_nil_of_length_eq_zero l1
    have h2 : cs = [] := List.eq_nil_of_length_eq_zero l2
    subst h1; subst h2; rfl
theorem ItS.want (h : ItS Jk Mi C G m nt σ0 a W1 env H m1) {ops : Array Oper} {o : Oper} {b : Bool} (hw : q5e ops env o = some b) : Region.wanted o (yielded ops a.tmps) = b := by
  obtain ⟨W, σ, σ1, hj, hr, hS, hs⟩ := h
  exact q6f hS.env hw
theorem it_cond {t : Nat} {b : Bool} {x y : Code} {Q : Exit → Act → World → Prop} (h : ItS Jk Mi C G m nt σ0 a W1 env H m1) (ht : env t = .bool b) (hq : (if b then x else y).wpIn Fence.wide 0 P Q a W1) : (Code.cond (.tmp t) x y).wpIn Fence.wide 0 P Q a W1 := wpIn_cond (h.bl ht) hq
/-- What is kept. -/
theorem it_keep (hG : ItG G m) (hst : ∀ A B, Jk A → EvB own A B → Jk B) (ho : ∀ i, q1g G i ≠ none → own (σ0 i).blk) (h : ItS Jk Mi C G m nt σ0 a W1 env H m1) (hC : ∀ b, C b → b < W1.heap.size) {E : List (Nat × PV)} (hk : q3c m G env H E) : ItS Jk Mi C G m nt σ0 a W1 (envL E) (q1g G) m := by
  have hj1 := h.now hst ho
  obtain ⟨W, σ, σ1, hj, hr, hS, hs⟩ := h
  have := st_yield hG.g hG.b hG.r hS hk (Kept.refl (fun b => ¬ C b) W1) (fun b hb => .inl hb) hC
  exact ⟨W1, σ1, σ1, hj1, this.hr, this, fun i hi => (st_same hr hG.r hS i hi).trans (hs i hi)⟩
/-- Behind a yield. -/
theorem it_next {Jk' : World → Prop} {C' : Nat → Prop} {W' : World} (hG : ItG G m) (h : ItS Jk Mi C G m nt σ0 a W1 env H m1) {E : List (Nat × PV)} (hk : q3c m G env H E) (hy : Kept (fun b => ¬ C b) W1 W') (hC : ∀ b, C' b → C b ∨ W1.heap.size ≤ b) (hC' : ∀ b, C' b → b < W'.heap.size) (hj' : Jk' W') :
    ItS Jk' Mi C' G m nt σ0 a W' (envL E) (q1g G) m := by
  obtain ⟨W, σ, σ1, hj, hr, hS, hs⟩ := h
  have := st_yield hG.g hG.b hG.r hS hk hy hC hC'
  exact ⟨W', σ1, σ1, hj', this.hr, this, fun i hi => (st_same hr hG.r hS i hi).trans (hs i hi)⟩
/-- Behind a yield that says no: nothing is known but truth values. -/
theorem it_stop {Jk' : World → Prop} {W' : World} (h : ItS Jk Mi C G m nt σ0 a W1 env H m1) {E : List (Nat × Bool)} (hk : ∀ x ∈ E, env x.1 = .bool x.2) (hj' : Jk' W') : ItS Jk' (fun _ _ => False) (fun _ => False) [] 0 nt σ0 a W' (envL (E.map fun x => (x.1, .bool x.2))) (q1g []) 0 := by
  obtain ⟨W, σ, σ1, hj, hr, hS, hs⟩ := h
  have h0 : HR W' (fun b o => (fun (_ _ : Nat) => False) b o ∨ (fun (_ : Nat) => False) b) σ1 (q1g []) := ⟨(fun b o h => (h.elim id id).elim), (fun i hi => absurd rfl hi), (fun i j hi => absurd rfl hi), (fun i l h => nomatch h), (fun i e sz els h => nomatch h)⟩
  refine ⟨W', σ1, σ1, hj', h0, ⟨h0, fun _ _ => rfl, Nat.le_refl _, Fr.refl _ _ _ _, hS.size, hS.defers, fun t => ?_⟩, fun i hi => absurd rfl hi⟩
  unfold envL
  split
  · rename_i x hx
    have h4 := List.find?_some hx
    obtain ⟨y, hy, rfl⟩ := List.mem_map.1 (List.mem_of_find?_eq_some hx)
    have : y.1 = t := by simpa using h4
    subst this
    have hv := hS.env y.1
    rw [hk y hy] at hv
    generalize a.tmps.getD y.1 undef = u at hv
    cases hv; exact .bool _
  · exact .any _
theorem ItS.put (h : ItS Jk Mi C G m nt σ0 a W1 env H m1) {d : Nat} (hd : d < nt) (b : Bool) : ItS Jk Mi C G m nt σ0 (a.put (some d) (.bool b)) W1 (upd env (some d) (.bool b)) H m1 := by
  obtain ⟨W, σ, σ1, hj, hr, hS, hs⟩ := h
  exact ⟨W, σ, σ1, hj, hr, hS.step hS.hr hS.free (Nat.le_refl _) (Fr.refl _ _ _ _) (fun z hz => by cases hz; exact hd) (.bool b), hs⟩
end
theorem keepK_e {m : Nat} {G : List (Nat × HE)} {env : Env} {H : Heap} {E : List (Nat × PV)} (h : q3c m G env H E) : ∀ x ∈ E, env x.1 = x.2 := fun x hx => (h.2 x hx).1
theorem keepK_h {m : Nat} {G : List (Nat × HE)} {env : Env} {H : Heap} {E : List (Nat × PV)} (h : q3c m G env H E) : ∀ i, i < m → H i = q1g G i := h.1
theorem it_split {P : Program} {ops : Array Oper} {R : Exit → Act → World → Prop} {a : Act} {W : World} (k : Nat) (l : List Oper) (h : wpListIn Fence.wide 0 P ops R (l.take k ++ l.drop k) a W) : wpListIn Fence.wide 0 P ops R l a W := by rwa [List.take_append_drop] at h
/-- An iterator's contract, by its code. -/
theorem iterI {α : Type} {P : Program} {gf : Nat} {fn : Func} {c : Code} {caps : List PV} {G : List (Nat × HE)} {m : Nat} {encs : α → Array Value} {xs : List α} (hf : P.funcs[gf]? = some fn) (hb : fn.body = some c) (hrs : fn.results = #[]) (hn : caps.length + 1 ≤ fn.ntmps) (hG : ItG G m)
    (h : ∀ (l : Nat) (own : Nat → Prop) (Mi : Nat → Nat → Prop) (σ0 : Nat → Gh) (J : Nat → (Nat → Prop) → World → Prop) (Jx : World → Prop) (C : Nat → Prop) (W : World) (a : Act), (∀ i, q1g G i ≠ none → own (σ0 i).blk) → (∀ k C A, J k C A → ∀ b, C b → b < A.heap.size) →
      (∀ k C A B, J k C A → EvB own A B → J k C B) → (∀ A B, Jx A → EvB own A B → Jx B) →
      (∀ k C (x : α) W1, xs[k]? = some x → J k C W1 → YieldAt Fence.wide 0 P l (encs x) W1 fun e W' =>
        (e = .returned (.bool true) ∧ Kept (fun b => ¬ C b) W1 W' ∧ ∃ C', (∀ b, C' b → C b ∨ W1.heap.size ≤ b) ∧ J (k + 1) C' W') ∨ (e = .returned (.bool false) ∧ Jx W')) →
      J 0 C W → ItS (J 0 C) Mi C G m fn.ntmps σ0 a W (q5a (.fn (.yield l) [] [] :: caps)) (q1g G) m →
      c.wpIn Fence.wide 0 P (fun e a' W' => (e = .normal ∨ e = .ret) ∧ a'.defers = [] ∧ ((∃ C, J xs.length C W') ∨ Jx W')) a W) : IterC P gf caps (q1g G) encs xs := by
  intro w M σ cs C0 hr hvl hC0 l J Jx C W hW hC hJC hJ hJx hY h0
  refine callsIn_of_wp hf hb trivial ?_
  have hcl := hJC 0 C W h0
  obtain ⟨h1, h2⟩ := hr.ev (M' := fun b o => M b o ∨ C b) (EvB.ofB (fun _ => False) hW)
    (fun b o hb => by
      rcases hb with h | h
      · exact Nat.lt_of_lt_of_le (hr.m0 b o h) hW.size
      · exact hcl b h)
    (fun _ _ _ _ hx => hx.elim) (fun _ _ hx => hx)
    (fun b o v hc hb => by
      rcases hb with h | h
      · exact h
      · rcases hC b h with h | h
        · exact hC0 b o h
        · have := q3p hc; omega)
    (fun id hid o hb => by
      rcases hb with h | h
      · exact hr.sep id hid o h
      · rcases hC _ h with h | h
        · exact hr.sep id hid o (hC0 _ o h)
        · have := hr.lt hid; omega)
  have hvl' : VL W (MU (fun b o => M b o ∨ C b) σ (q1g G)) σ (LV (q1g G)) (.func (.yield l) #[] #[] :: cs) (.fn (.yield l) [] [] :: caps) := by
    refine ⟨by simp [hvl.1], fun i v p hv hp => ?_⟩
    cases i with
    | zero => simp at hv hp; subst hv; subst hp; exact .fn _ [] [] [] [] rfl rfl (fun i v p hv => by simp at hv) (fun i v p hv => by simp at hv)
    | succ i => simp at hv hp; exact (hvl.2 i v p hv hp).mono h2
  have hS := st_init (nt := fn.ntmps) h1 hG.g hvl' (by simpa using hn)
  have ha : (#[Value.func (.yield l) #[] #[]] ++ cs.toArray : Array Value) = (Value.func (.yield l) #[] #[] :: cs).toArray := by simp
  rw [ha]
  refine wpIn_mono (h l _ M σ J Jx C W _ (fun i hi => ⟨i, hi, rfl⟩) hJC hJ hJx hY h0 ⟨W, σ, σ, h0, h1, hS, fun _ _ => rfl⟩) ?_
  rintro e a' W' ⟨he, hd, hq⟩
  have hres : (results fn a'.tmps).run P W' = .ok (.tuple #[]) W' := by simp [results, hrs]
  rcases he with rfl | rfl
  · exact ⟨hd, _, hres, ⟨_, rfl⟩, hq⟩
  · exact ⟨hd, _, hres, ⟨_, rfl⟩, hq⟩
end Go.Proofs.YtoibbedpaaeclaaGreat
end

section
namespace Go.Proofs.YtoibbedpaaeclaaGreat
open Go Go.RowKit
set_option linter.unusedVariables false
set_option linter.unusedSimpArgs false
set_option maxHeartbeats 16000000
set_option maxRecDepth 100000
attribute [go_sem] q1m
def hlG (w : Wd) (id : Int) : List (Nat × HE) := [(2, .box (Wd.enc w)), (3, .box [.int .u64 id])]
theorem wd_bdl (S : Nat → Prop) (w : Wd) : BdL S (Wd.enc w) := by simp only [go_sem]
theorem hlG_ok (w : Wd) (id : Int) : ItG (hlG w id) 4 := by
  refine ⟨fun i hi => ?_, fun i l h => ?_, fun i e sz els h => ?_⟩
  · unfold hlG; rw [q3j, if_neg (by omega), q3j, if_neg (by omega)]; rfl
  · unfold hlG at h
    rw [q3j] at h
    split at h
    · cases h; exact wd_bdl _ w
    · rw [q3j] at h
      split at h
      · cases h; intro p hp; simp at hp; subst hp; exact .int _ _
      · cases h
  · unfold hlG at h
    rw [q3j] at h
    split at h
    · cases h
    · rw [q3j] at h
      split at h <;> cases h
theorem hl_next {w : Wd} {id : Int} {n : Nat} {x : Ob} (hx : w.objects[n]? = some x) (h : x.links.any (· == id) = true) : (q2w w id)[(q7b w.objects id n).length]? = some x.id := by
  have e : q2w w id = q7b w.objects id (n + 1) ++ ((w.objects.drop (n + 1)).filter fun o => o.links.any (· == id)).map Ob.id := by
    unfold q2w q7b
    rw [← List.map_append, ← List.filter_append, List.take_append_drop]
  rw [e, hold_yes hx h, List.append_assoc, List.getElem?_append_right (Nat.le_refl _), Nat.sub_self]
  rfl
def hlE (l : Nat) (w : Wd) (n : Nat) : List (Nat × PV) := [(0, .fn (.yield l) [] []), (1, .ptr 2 0), (2, .ptr 3 0), (10, .sl (w.objects.map Ob.enc)), (11, .int .i64 w.objects.length), (12, .int .i64 n)]
@[go_sem] theorem view_build (w : Wd) : q4c Tryz.prog 291 [(0, .agg (Wd.enc w))] = some (.agg (Wd.enc w)) := by kernel_rfl
@[go_sem] theorem cut_idbox (n : Int) : cut Tryz.prog 22 [.int .u64 n] 0 = some (.int .u64 n) := by kernel_rfl
@[go_sem] theorem view_f0 : q1s Tryz.prog 291 0 = some (33, 0) := by kernel_rfl
attribute [local irreducible] q0i dr q0d Ex.then Ex.inBlock retQ q1l q2j q2g Pure CSat evOp q1i rdOf upd hset strip sp0 cut envL q1g q3q Keep BdL evBs q2s q3c
theorem holders_iter (w : Wd) (id : Int) (hl : w.objects.length ≤ 1000000) (hs : ∀ x ∈ w.objects, RisU x.links ∧ x.links.length ≤ 1000000) : IterC Tryz.prog 298 [.ptr 2 0, .ptr 3 0] (q1g (hlG w id)) (fun y : Int => #[.int .u64 y]) (q2w w id) := by
  have hm : Tryz.prog.follows .mixedOrders = true := by kernel_rfl
  have hG := hlG_ok w id
  refine iterI Tryz.func298 rfl Tryz.results298 (by simp [Tryz.ntmps298]) hG ?_
  intro l own Mi σ0 J Jx C W a ho hJC hJ hJx hY h0 hS
  refine it_seg hm hG (by kernel_rfl) (K := fun env' H' _ => q3c 4 (hlG w id) env' H' (hlE l w 0)) hS ?_ ?_
  · unfold hlG
    repeat' (first | (show q0i ..; first | refine q0c ?_ | refine q0e rfl ?_) | (show q0k ..; refine q0f rfl rfl ?_) | (show goOn ..; refine q0g ?_) | (show q0d ..; refine q0b ?_))
    refine ⟨rfl, q7r (fun i _ => rfl) ?_⟩
    unfold hlE
    (repeat' (first | exact q0v | refine q0p (by (try simp only [go_sem, *]); try rfl) (by simp only [go_sem, *]) ?_))
  intro a1 W1 env1 H1 m1 hk1 hS1
  have hS2 := it_keep hG (hJ 0 C) ho hS1 (fun b hb => Nat.lt_of_lt_of_le (hJC 0 C _ (hS1.now (hJ 0 C) ho) b hb) (Nat.le_refl _)) hk1
  refine wpIn_block (loop_n_in (fun n' a W => ∃ n C, n' = w.objects.length - n ∧ n ≤ w.objects.length ∧ ItS (J (q7b w.objects id n).length C) Mi C (hlG w id) 4 _ σ0 a W (envL (hlE l w n)) (q1g (hlG w id)) 4) _ ⟨0, C, rfl, Nat.zero_le _, hS2⟩ ?_)
  clear hS hk1 hS1 hS2 h0
  rintro _ a W ⟨n, C, rfl, hn, hS⟩
  have hCl : ∀ {nt a W env H m}, ItS (J (q7b w.objects id n).length C) Mi C (hlG w id) 4 nt σ0 a W env H m → ∀ b, C b → b < W.heap.size := fun h b hb => hJC _ C _ (h.now (hJ _ C) ho) b hb
  rcases Nat.lt_or_ge n w.objects.length with hlt | hge
  · obtain ⟨x, hx⟩ := q2f hlt
    have c0 := q2k hlt
    obtain ⟨hxs, hxl⟩ := hs x (sidx hx)
    refine it_seg hm hG (by kernel_rfl) (K := fun env' H' _ => q3c 4 (hlG w id) env' H' ((13, .bool true) :: hlE l w n)) hS ?_ ?_
    · unfold hlE hlG
      repeat' (first | (show q0i ..; first | refine q0c ?_ | refine q0e rfl ?_) | (show q0k ..; refine q0f rfl rfl ?_) | (show goOn ..; refine q0g ?_) | (show q0d ..; refine q0b ?_))
      refine ⟨rfl, q7r (fun i _ => rfl) ?_⟩
      (repeat' (first | exact q0v | refine q0p (by (try simp only [go_sem, *]); try rfl) (by simp only [go_sem, *]) ?_))
    intro a1 W1 env1 H1 m1 hk1 hS1
    have hS2 := it_keep hG (hJ _ C) ho hS1 (hCl hS1) hk1
    refine wpIn_seq (it_cond hS2 (b := true) (by simp only [go_sem]) (wpIn_skip ?_))
    clear hS hk1 hS1
    refine wpIn_seq (wpIn_block ?_)
    have hsr := search_u x.links id hxl hxs
    refine it_seg2 hm hG (by kernel_rfl) (K := fun env' H' _ => q3c 4 (hlG w id) env' H' (hlE l w n) ∧ env' 7 = .bool (x.links.any (· == id)) ∧ env' 5 = .ptr 4 0 ∧ H' 4 = some (.box (Ob.enc x)) ∧ env' 0 = .fn (.yield l) [] []) hS2 ?_ ?_
    · unfold hlE hlG
      repeat' (first | (show q0i ..; first | refine q0c ?_ | refine q0e rfl ?_) | (show q0k ..; first | refine q0f rfl rfl ?_ | refine q0m rfl ?_) | (show goOn ..; first | refine q0g ?_ | refine q1d ?_ | refine q1x ?_) | (show q3f ..; refine q1h ?_) | (show q1j ..; (refine q0u (r := ?_) ?_ ?_; rotate_left 1; (focus exact hsr))) | (show q0d ..; first | refine q0h ?_ | refine q0b ?_) | refine q0a ?_)
      refine ⟨rfl, q7r (fun i hi => ?_) ?_, ?_, ?_, ?_, ?_⟩
      · have h4 : ¬ i = 4 := by omega
        simp only [go_sem, h4, if_false]
      · (repeat' (first | exact q0v | refine q0p (by (try simp only [go_sem, *]); try rfl) (by simp only [go_sem, *]) ?_))
      all_goals simp only [go_sem]
    intro a2 W2 env2 H2 m2 ⟨hk2, e7, e5, e4, e0⟩ hS3
    clear hS2
    refine wpIn_seq_k ?_
    intro K hK
    have fin : ∀ {k : Nat} {C : Nat → Prop} {a W}, k = (q7b w.objects id (n + 1)).length → ItS (J k C) Mi C (hlG w id) 4 Tryz.f298.ntmps σ0 a W (envL ((30, .bool false) :: hlE l w n)) (q1g (hlG w id)) 4 → K a W := by
      rintro _ C a W rfl hS
      refine hK a W (it_cond hS (b := false) (by simp only [go_sem]) (wpIn_skip ?_))
      have hw4 := q2e n (by omega)
      refine it_last hm hG (by kernel_rfl) (K := fun env' H' _ => q3c 4 (hlG w id) env' H' (hlE l w (n + 1))) hS ?_ ?_
      · unfold hlE hlG
        repeat' (first | (show q0i ..; first | refine q0c ?_ | refine q0e rfl ?_) | (show q0k ..; refine q0f rfl rfl ?_) | (show goOn ..; refine q0g ?_) | (show q0d ..; refine q0b ?_))
        refine ⟨rfl, q7r (fun i _ => rfl) ?_⟩
        (repeat' (first | exact q0v | refine q0p (by (try simp only [go_sem, *]); try rfl) (by simp only [go_sem, *]) ?_))
      intro a1 W1 env1 H1 m1 hk1 hS1
      exact ⟨_, by omega, n + 1, C, rfl, hlt, it_keep hG (hJ _ C) ho hS1 (fun b hb => hJC _ C _ (hS1.now (hJ _ C) ho) b hb) hk1⟩
    have ke : ∀ y ∈ hlE l w n, env2 y.1 = y.2 := keepK_e hk2
    have k1 : env2 1 = .ptr 2 0 := ke (1, _) (by unfold hlE; simp)
    have k2 : env2 2 = .ptr 3 0 := ke (2, _) (by unfold hlE; simp)
    have k10 : env2 10 = .sl (w.objects.map Ob.enc) := ke (10, _) (by unfold hlE; simp)
    have k11 : env2 11 = .int .i64 w.objects.length := ke (11, _) (by unfold hlE; simp)
    have k12 : env2 12 = .int .i64 n := ke (12, _) (by unfold hlE; simp)
    clear ke
    cases hbv : x.links.any (· == id) with
    | false =>
      rw [hbv] at e7
      have hcnt : (q7b w.objects id n).length = (q7b w.objects id (n + 1)).length := by rw [hold_no hx hbv]
      refine it_last hm hG (by kernel_rfl) (K := fun env' H' _ => q3c 4 (hlG w id) env' H' ((30, .bool false) :: hlE l w n)) hS3 ?_ ?_
      · repeat' (first | (show q0i ..; first | refine q0c ?_ | refine q0e rfl ?_ | refine q1b rfl rfl ?_) | (show q0k ..; refine q0f rfl rfl ?_) | (show goOn ..; refine q0g ?_) | (show wGo ..; refine q3x ?_) | (show q0d ..; refine q0b ?_))
        refine ⟨rfl, q7r (keepK_h hk2) ?_⟩
        unfold hlE hlG
        (repeat' (first | exact q0v | refine q0p (by (try simp only [go_sem, *]); try rfl) (by simp only [go_sem, *]) ?_))
      intro a1 W1 env1 H1 m1 hk1 hS1
      exact fin hcnt (it_keep hG (hJ _ C) ho hS1 (hCl hS1) hk1)
    | true =>
      rw [hbv] at e7
      have hcnt : (q7b w.objects id n).length + 1 = (q7b w.objects id (n + 1)).length := by rw [hold_yes hx hbv]; simp
      refine wpIn_region_lit ?_
      refine it_split 5 _ ?_
      simp only [List.take_succ_cons, List.take_zero, List.drop_succ_cons, List.drop_zero]
      refine it_list _ hS3 (by simp [Tryz.ntmps298]) (by kernel_rfl) (K := fun env' H' _ => q3c 4 (hlG w id) env' H' ((24, .bool true) :: hlE l w n) ∧ env' 24 = .bool true ∧ env' 25 = .fn (.yield l) [] [] ∧ env' 27 = .int .u64 x.id) ?_ ?_
      · repeat' (first | (show q0i ..; first | refine q0c ?_ | refine q0e rfl ?_ | refine q1b rfl rfl ?_) | (show q0k ..; refine q0f rfl rfl ?_) | (show goOn ..; refine q0g ?_) | (show wGo ..; refine q3n ?_))
        refine ⟨rfl, q7r (keepK_h hk2) ?_, ?_, ?_, ?_⟩
        · unfold hlE hlG
          (repeat' (first | exact q0v | refine q0p (by (try simp only [go_sem, *]); try rfl) (by simp only [go_sem, *]) ?_))
        all_goals simp only [go_sem, *]
      intro a1 W1 env1 H1 m1 ⟨hk1, f24, f25, f27⟩ hS1
      clear hS3 hk2 k1 k2 k10 k11 k12 e7 e5 e4 e0
      refine yield_in (hS1.want (by simp [q5e, f24])) rfl rfl (hS1.yld f25) (by simp [hS1.int f27]) (hY _ C x.id W1 (hl_next hx hbv) (hS1.now (hJ _ C) ho)) ?_
      rintro e W' (⟨rfl, hkept, C', hC', hj'⟩ | ⟨rfl, hj'⟩)
      · refine ⟨_, rfl, ?_⟩
        have hS4 := it_next hG hS1 hk1 hkept hC' (hJC _ C' _ hj') hj'
        have hS5 := hS4.put (d := 28) (by simp [Tryz.ntmps298]) true
        refine it_list (l2 := []) [_, _] hS5 (by simp [Tryz.ntmps298]) (by kernel_rfl) (K := fun env' H' _ => q3c 4 (hlG w id) env' H' ((30, .bool false) :: hlE l w n)) ?_ ?_
        · unfold hlE hlG
          repeat' (first | (show q0i ..; first | refine q0c ?_ | refine q0e rfl ?_ | refine q1b rfl rfl ?_) | (show q0k ..; refine q0f rfl rfl ?_) | (show goOn ..; refine q0g ?_) | (show wGo ..; refine q3n ?_))
          refine ⟨rfl, q7r (fun i _ => rfl) ?_⟩
          (repeat' (first | exact q0v | refine q0p (by (try simp only [go_sem, *]); try rfl) (by simp only [go_sem, *]) ?_))
        intro a2 W2 env2 H2 m2 hk6 hS6
        exact fin hcnt (it_keep hG (hJ _ C') ho hS6 (fun b hb => hJC _ C' _ (hS6.now (hJ _ C') ho) b hb) hk6)
      · refine ⟨_, rfl, ?_⟩
        have hS4 := it_stop (Jk' := Jx) hS1 (E := [(24, true)]) (by simpa using f24) hj'
        have hS5 := hS4.put (d := 28) (by simp [Tryz.ntmps298]) false
        refine it_list (l2 := []) [_, _] hS5 (by simp [Tryz.ntmps298]) (by kernel_rfl) (K := fun env' H' _ => env' 30 = .bool true) ?_ ?_
        · repeat' (first | (show q0i ..; first | refine q0c ?_ | refine q0e rfl ?_ | refine q1b rfl rfl ?_) | (show q0k ..; refine q0f rfl rfl ?_) | (show goOn ..; refine q0g ?_) | (show wGo ..; refine q3n ?_))
          simp only [go_sem]
        intro a2 W2 env2 H2 m2 hk6 hS6
        refine hK a2 W2 (it_cond hS6 (b := true) hk6 (wpIn_ret ?_))
        exact ⟨.inr rfl, hS6.defers, .inr (hS6.now hJx (fun i hi => (hi (by simp only [go_sem])).elim))⟩
  · have c0 := q1w hge
    refine it_seg hm hG (by kernel_rfl) (K := fun env' H' _ => q3c 4 (hlG w id) env' H' ((13, .bool false) :: hlE l w n)) hS ?_ ?_
    · unfold hlE hlG
      repeat' (first | (show q0i ..; first | refine q0c ?_ | refine q0e rfl ?_) | (show q0k ..; refine q0f rfl rfl ?_) | (show goOn ..; refine q0g ?_) | (show q0d ..; refine q0b ?_))
      refine ⟨rfl, q7r (fun i _ => rfl) ?_⟩
      (repeat' (first | exact q0v | refine q0p (by (try simp only [go_sem, *]); try rfl) (by simp only [go_sem, *]) ?_))
    intro a1 W1 env1 H1 m1 hk1 hS1
    have hS2 := it_keep hG (hJ _ C) ho hS1 (hCl hS1) hk1
    refine wpIn_seq (it_cond hS2 (b := false) (by simp only [go_sem]) (wpIn_exit ?_))
    refine ⟨.inl rfl, hS2.defers, .inl ⟨C, ?_⟩⟩
    have := hS2.now (hJ _ C) ho
    rw [hold_all w id hge] at this
    exact this
end Go.Proofs.YtoibbedpaaeclaaGreat
end
