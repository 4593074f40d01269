import Derived.Test.YtkajfadhlgmcjaaPCx2
import Derived.Test.YtkajfadhlgmcjaaPCx2
import Derived.Test.YtkajfadhlgmcjaaPCx4
import Derived.Test.YtkajfadhlgmcjaaPCx6
import Derived.Test.YtkajfadhlgmcjaaPCx7
import Derived.Test.YtkajfadhlgmcjaaPCx8
import Derived.Test.YtkajfadhlgmcjaaPCx6
import Derived.Test.YtkajfadhlgmcjaaPCx2
import Derived.Test.YtkajfadhlgmcjaaPCx6
namespace Go.Proofs.Ytkajfadhlgmcjaa.PC
open Go Go.RowKit Go.Proofs.Ytkajfadhlgmcjaa Go.Proofs.YtkajfadhlgmcjaaW.PrintWords Go.Proofs.YtkajfadhlgmcjaaW.PrintLast Go.Proofs.YtkajfadhlgmcjaaW.PrintMore
set_option linter.unusedVariables false
set_option linter.unusedSimpArgs false
/-! What the printed reference functions of chapter 2 say of labels. -/
theorem rd_ofLab (l : Lab) (i : Nat) (h : i < l.length) : rd_T46 (ofLab l) (i : Int) = ⟨l[i].1, l[i].2⟩ := by
  unfold rd_T46 ofLab
  simp [h]
theorem w64 {x : Int} (h : 0 ≤ x ∧ x < 9223372036854775808) : wrap64 x = x := by unfold wrap64; omega
theorem w64s (i : Nat) (h : i < 1000000000) : wrap64 ((i : Int) + 1) = ((i + 1 : Nat) : Int) := by rw [w64 (by omega)]; omega
def fitB (l : Lab) : Bool := fitX l
theorem fitB_iff {l : Lab} : fitB l = true ↔ FitL l := fitX_iff
theorem fit_f (l : Lab) (hlen : l.length ≤ 1000) : curtilageref02_Fit.f (ofLab l) = some (fitB l) := by
  unfold curtilageref02_Fit.f fitB; rw [ofLab_len, toL_ofLab, if_pos (by omega)]
theorem fitB_t {l : Lab} (h : FitL l) : fitB l = true := fitX_iff.2 h
theorem fitB_f {l : Lab} (h : ¬ FitL l) : fitB l = false := by
  cases hf : fitB l with
  | false => rfl
  | true => exact absurd (fitX_iff.1 hf) h
open Classical in
noncomputable def sameB (a b : Lab) : Bool := decide (a = b)
theorem sameB_t {a b : Lab} (h : a = b) : sameB a b = true := by unfold sameB; simp [h]
open Classical in
theorem same_loop (a b : Lab) (he : a.length = b.length) (hlen : a.length ≤ 1000000) : ∀ (d k i : Nat), i + d = a.length → d < k → curtilageref02_Same.l0 k (ofLab a) (ofLab b) (i : Int) = some (decide (a.drop i = b.drop i)) := by
  intro d
  induction d with
  | zero =>
    intro k i hi hk
    obtain ⟨k, rfl⟩ : ∃ m, k = m + 1 := ⟨k - 1, by omega⟩
    simp only [curtilageref02_Same.l0, ofLab_len]
    rw [if_neg (by omega)]
    congr 1; symm
    exact decide_eq_true (by rw [List.drop_of_length_le (by omega), List.drop_of_length_le (by omega)])
  | succ d ih =>
    intro k i hi hk
    obtain ⟨k, rfl⟩ : ∃ m, k = m + 1 := ⟨k - 1, by omega⟩
    have ha : i < a.length := by omega
    have hb : i < b.length := by omega
    have ih' := ih k (i + 1) (by omega) (by omega)
    have hw := w64s i (by omega)
    simp only [curtilageref02_Same.l0, ofLab_len]
    rw [if_pos (by omega), if_pos (by omega), if_pos (by omega), rd_ofLab a i ha, rd_ofLab b i hb, hw, ih']
    rw [List.drop_eq_getElem_cons ha, List.drop_eq_getElem_cons hb]
    by_cases h1 : a[i] = b[i]
    · rw [if_neg (by simp [h1])]
      congr 1
      exact decide_eq_decide.2 ⟨fun h => by rw [h1, h], fun h => (List.cons.inj h).2⟩
    · rw [if_pos (by
        by_cases hx : a[i].1 = b[i].1
        · have hy : a[i].2 ≠ b[i].2 := fun hy => h1 (Prod.ext hx hy)
          simp [hx, hy]
        · simp [hx])]
      congr 1; symm
      exact decide_eq_false fun h => h1 (List.cons.inj h).1
theorem same_f (a b : Lab) (hlen : a.length ≤ 1000) (k : Nat) (hk : a.length < k) : curtilageref02_Same.f k (ofLab a) (ofLab b) = some (sameB a b) := by
  unfold curtilageref02_Same.f
  rw [ofLab_len, ofLab_len]
  by_cases he : a.length = b.length
  · rw [if_pos (by omega)]
    have := same_loop a b he (by omega) a.length k 0 (by omega) hk
    simp only [List.drop_zero] at this
    exact this
  · rw [if_neg (by omega)]
    congr 1; symm
    unfold sameB
    exact decide_eq_false fun h => he (by rw [h])

theorem r1of (a : Int) : curtilageref01_Of.f a = some (ofL a) := by
  unfold curtilageref01_Of.f ofL
  by_cases h1 : a < 0
  · rw [if_pos h1, if_neg (by omega)]
  · by_cases h2 : a > 5
    · rw [if_neg h1, if_pos h2, if_neg (by omega)]
    · rw [if_neg h1, if_neg h2, if_pos (by omega)]
theorem r1leq (a b : Int) : curtilageref01_Leq.f a b = some (decide (ofL a ≤ ofL b)) := by
  unfold curtilageref01_Leq.f; rw [r1of, r1of]; rfl
theorem r1join (a b : Int) : curtilageref01_Join.f a b = some (upL a b) := by
  unfold curtilageref01_Join.f upL; rw [r1of, r1of]
  simp only [Option.bind_some]
  by_cases h : ofL a > ofL b
  · rw [if_pos h, if_neg (by omega)]
  · rw [if_neg h, if_pos (by omega)]
theorem r1raise (a : Int) : curtilageref01_Raise.f a = some (raL a) := by
  unfold curtilageref01_Raise.f raL; rw [r1of]
  simp only [Option.bind_some]
  by_cases h : ofL a = 0
  · rw [if_pos h, if_pos h]
  · rw [if_neg h, if_neg h]
theorem rget_loop (l : Lab) (c : Int) (hlen : l.length ≤ 1000000) : ∀ (d k i : Nat), i + d = l.length → d < k → curtilageref02_Get.l0 k (ofLab l) c (i : Int) = some (getL (l.drop i) c) := by
  intro d
  induction d with
  | zero =>
    intro k i hi hk
    obtain ⟨k, rfl⟩ : ∃ m, k = m + 1 := ⟨k - 1, by omega⟩
    simp only [curtilageref02_Get.l0, ofLab_len]
    rw [if_neg (by omega), List.drop_of_length_le (by omega), getL_nil]
  | succ d ih =>
    intro k i hi hk
    obtain ⟨k, rfl⟩ : ∃ m, k = m + 1 := ⟨k - 1, by omega⟩
    have hil : i < l.length := by omega
    have ih' := ih k (i + 1) (by omega) (by omega)
    have hw := w64s i (by omega)
    simp only [curtilageref02_Get.l0, ofLab_len]
    rw [if_pos (by omega), if_pos (by omega), rd_ofLab l i hil, hw, ih', List.drop_eq_getElem_cons hil, getL_cons]
    by_cases h1 : l[i].1 = c
    · rw [if_pos h1, if_pos h1]
    · rw [if_neg h1, if_neg h1]
theorem rget_f (l : Lab) (c : Int) (hlen : l.length ≤ 1000) (k : Nat) (hk : l.length < k) : curtilageref02_Get.f k (ofLab l) c = some (getL l c) := by
  have := rget_loop l c (by omega) l.length k 0 (by omega) hk
  rwa [List.drop_zero] at this
theorem rleq_loop1 (a b : Lab) (ha : a.length ≤ 1000) (hb : b.length ≤ 1000) : ∀ (d k i : Nat), i + d = b.length → d + 1000 < k → curtilageref02_Leq.l1 k (ofLab a) (ofLab b) (i : Int) = some ((b.drop i).all (fun q => decide (ofL (getL a q.1) ≤ ofL q.2))) := by
  intro d
  induction d with
  | zero =>
    intro k i hi hk
    obtain ⟨k, rfl⟩ : ∃ m, k = m + 1 := ⟨k - 1, by omega⟩
    simp only [curtilageref02_Leq.l1, ofLab_len]
    rw [if_neg (by omega), List.drop_of_length_le (by omega)]
    rfl
  | succ d ih =>
    intro k i hi hk
    obtain ⟨k, rfl⟩ : ∃ m, k = m + 1 := ⟨k - 1, by omega⟩
    have hil : i < b.length := by omega
    have ih' := ih k (i + 1) (by omega) (by omega)
    have hw := w64s i (by omega)
    simp only [curtilageref02_Leq.l1, ofLab_len]
    rw [if_pos (by omega), if_pos (by omega), rd_ofLab b i hil]
    simp only []
    rw [rget_f a _ ha k (by omega), Option.bind_some, r1leq, Option.bind_some, hw, ih', List.drop_eq_getElem_cons hil, List.all_cons]
    by_cases h1 : ofL (getL a b[i].1) ≤ ofL b[i].2
    · rw [if_pos (decide_eq_true h1), decide_eq_true h1, Bool.true_and]
    · rw [if_neg (by simpa using h1), decide_eq_false h1, Bool.false_and]
theorem rleq_loop0 (a b : Lab) (ha : a.length ≤ 1000) (hb : b.length ≤ 1000) : ∀ (d k i : Nat), i + d = a.length → d + 2100 < k → curtilageref02_Leq.l0 k (ofLab a) (ofLab b) (i : Int) = some ((a.drop i).all (fun p => decide (ofL p.2 ≤ ofL (getL b p.1))) && b.all (fun q => decide (ofL (getL a q.1) ≤ ofL q.2))) := by
  intro d
  induction d with
  | zero =>
    intro k i hi hk
    obtain ⟨k, rfl⟩ : ∃ m, k = m + 1 := ⟨k - 1, by omega⟩
    simp only [curtilageref02_Leq.l0, ofLab_len]
    rw [if_neg (by omega), List.drop_of_length_le (by omega)]
    have := rleq_loop1 a b ha hb b.length k 0 (by omega) (by omega)
    rw [List.drop_zero] at this
    rw [show ((0 : Int)) = ((0 : Nat) : Int) from rfl, this]
    rfl
  | succ d ih =>
    intro k i hi hk
    obtain ⟨k, rfl⟩ : ∃ m, k = m + 1 := ⟨k - 1, by omega⟩
    have hil : i < a.length := by omega
    have ih' := ih k (i + 1) (by omega) (by omega)
    have hw := w64s i (by omega)
    simp only [curtilageref02_Leq.l0, ofLab_len]
    rw [if_pos (by omega), if_pos (by omega), rd_ofLab a i hil]
    simp only []
    rw [rget_f b _ hb k (by omega), Option.bind_some, r1leq, Option.bind_some, hw, ih', List.drop_eq_getElem_cons hil, List.all_cons]
    by_cases h1 : ofL a[i].2 ≤ ofL (getL b a[i].1)
    · rw [if_pos (decide_eq_true h1), decide_eq_true h1, Bool.true_and]
    · rw [if_neg (by simpa using h1), decide_eq_false h1, Bool.false_and, Bool.false_and]
theorem rleq_f {a b : Lab} (fa : FitL a) (fb : FitL b) (ha : a.length ≤ 1000) (hb : b.length ≤ 1000) (k : Nat) (hk : 3200 ≤ k) : curtilageref02_Leq.f k (ofLab a) (ofLab b) = some (leqB a b) := by
  have := rleq_loop0 a b ha hb a.length k 0 (by omega) (by omega)
  rw [List.drop_zero] at this
  unfold curtilageref02_Leq.f
  refine Eq.trans this ?_
  congr 1
  rw [Bool.eq_iff_iff, leqB_iff fa fb, Bool.and_eq_true, List.all_eq_true, List.all_eq_true]
  constructor
  · rintro ⟨h1, h2⟩ c
    rcases getL_or fa.sorted c with ⟨p, hp, rfl, he⟩ | ⟨_, he⟩
    · have := of_decide_eq_true (h1 p hp)
      rw [he]
      have hl := fa.lev p hp
      rw [ofL_of ⟨hl.1, hl.2.1⟩, ofL_get fb] at this
      exact this
    · rcases getL_or fb.sorted c with ⟨q, hq, rfl, he2⟩ | ⟨_, he2⟩
      · have := of_decide_eq_true (h2 q hq)
        have hl := fb.lev q hq
        rw [ofL_of ⟨hl.1, hl.2.1⟩, ofL_get fa] at this
        rw [he2]; exact this
      · rw [he, he2]; exact Int.le_refl _
  · intro h
    constructor
    · intro p hp
      have hl := fa.lev p hp
      have := h p.1
      rw [getL_mem fa.sorted hp] at this
      exact decide_eq_true (by rw [ofL_of ⟨hl.1, hl.2.1⟩, ofL_get fb]; exact this)
    · intro q hq
      have hl := fb.lev q hq
      have := h q.1
      rw [getL_mem fb.sorted hq] at this
      exact decide_eq_true (by rw [ofL_of ⟨hl.1, hl.2.1⟩, ofL_get fa]; exact this)
theorem lab_map_fit {F : Int → Int} (hF : ∀ x, 0 ≤ x → x ≤ 5 → x ≠ 2 → 0 ≤ F x ∧ F x ≤ 5 ∧ F x ≠ 2) {a : Lab} (fa : FitL a) : FitL (a.map (fun p => (p.1, F p.2))) := by
  constructor
  · unfold SortedP; rw [List.pairwise_map]; exact fa.sorted
  · intro p hp
    obtain ⟨q, hq, rfl⟩ := List.mem_map.1 hp
    have := fa.lev q hq
    exact hF q.2 this.1 this.2.1 this.2.2
theorem lab_map_get {F : Int → Int} (h2 : F 2 = 2) (a : Lab) (c : Int) : getL (a.map (fun p => (p.1, F p.2))) c = F (getL a c) := by
  induction a with
  | nil => rw [List.map_nil, getL_nil, h2]
  | cons p t ih =>
    rw [List.map_cons, getL_cons, getL_cons]
    by_cases h : p.1 = c
    · rw [if_pos h, if_pos h]
    · rw [if_neg h, if_neg h, ih]
theorem ofLab_snoc (l : Lab) (p : Int × Int) : ofLab l ++ [(⟨p.1, p.2⟩ : S46)] = ofLab (l ++ [p]) := by unfold ofLab; rw [List.map_append]; rfl
theorem rraise_loop (l : Lab) (hlen : l.length ≤ 1000) : ∀ (d k i : Nat) (out : Lab), i + d = l.length → d < k → out.length ≤ i → curtilageref02_Raise.l0 k (ofLab l) (ofLab out) (i : Int) = some (ofLab (out ++ (l.drop i).map (fun p => (p.1, raL p.2)))) := by
  intro d
  induction d with
  | zero =>
    intro k i out hi hk ho
    obtain ⟨k, rfl⟩ : ∃ m, k = m + 1 := ⟨k - 1, by omega⟩
    simp only [curtilageref02_Raise.l0, ofLab_len]
    rw [if_neg (by omega), List.drop_of_length_le (by omega), List.map_nil, List.append_nil]
  | succ d ih =>
    intro k i out hi hk ho
    obtain ⟨k, rfl⟩ : ∃ m, k = m + 1 := ⟨k - 1, by omega⟩
    have hil : i < l.length := by omega
    have hw := w64s i (by omega)
    simp only [curtilageref02_Raise.l0, ofLab_len]
    rw [if_pos (by omega), if_pos (by omega), rd_ofLab l i hil]
    simp only []
    rw [r1raise, Option.bind_some, if_pos (by omega), hw, ofLab_snoc out (l[i].1, raL l[i].2), ih k (i + 1) _ (by omega) (by omega) (by simp; omega), List.drop_eq_getElem_cons hil, List.map_cons, List.append_assoc]
    rfl
theorem rraise_f {a : Lab} (fa : FitL a) (ha : a.length ≤ 1000) (k : Nat) (hk : 1000 < k) : curtilageref02_Raise.f k (ofLab a) = some (ofLab (raiseB a)) := by
  have := rraise_loop a ha a.length k 0 [] (by omega) (by omega) (by simp)
  rw [List.drop_zero, List.nil_append] at this
  unfold curtilageref02_Raise.f
  refine Eq.trans this ?_
  rw [lab_ext (lab_map_fit (F := raL) (fun x h0 h5 h2 => by
    unfold raL
    rw [ofL_of ⟨h0, h5⟩]
    by_cases hx : x = 0
    · rw [if_pos hx]; decide
    · rw [if_neg hx]; exact ⟨h0, h5, h2⟩) fa) (raise_fit fa) (fun c => by
    rw [lab_map_get (F := raL) rfl, raise_get fa]
    have := getL_range fa c
    unfold raL; rw [ofL_of this])]
/-- A label with a category's level, as the reference makes it: done tells that the pair is there. -/
def withG (c v : Int) : Lab → Bool → Lab
  | [], true => []
  | [], false => [(c, v)]
  | p :: t, done => if done = false ∧ p.1 > c then (c, v) :: (if p.1 = c then withG c v t true else p :: withG c v t true) else if p.1 = c then withG c v t done else p :: withG c v t done
theorem withG_len (c v : Int) : ∀ (l : Lab) (b : Bool), (withG c v l b).length ≤ l.length + 1
  | [], true => by simp [withG]
  | [], false => by simp [withG]
  | p :: t, b => by
    have h1 := withG_len c v t true
    have h2 := withG_len c v t b
    unfold withG
    by_cases h : b = false ∧ p.1 > c
    · have h3 : (withG c v t true).length ≤ t.length := by
        have : ∀ l : Lab, (withG c v l true).length ≤ l.length := by
          intro l
          induction l with
          | nil => simp [withG]
          | cons q r ih => unfold withG; rw [if_neg (by simp)]; split <;> simp <;> omega
        exact this t
      rw [if_pos h]
      split <;> simp <;> omega
    · rw [if_neg h]
      split <;> simp <;> omega
theorem rwith_loop (l : Lab) (c v : Int) (hlen : l.length ≤ 3000) : ∀ (d k i : Nat) (out : Lab) (done : Bool), i + d = l.length → 2 * d + 1 < k → out.length ≤ 2 * i + 2 →
    curtilageref02_with.l0 k (ofLab l) c v (ofLab out) done (i : Int) = some (ofLab (out ++ withG c v (l.drop i) done)) := by
  intro d
  induction d with
  | zero =>
    intro k i out done hi hk ho
    obtain ⟨k, rfl⟩ : ∃ m, k = m + 1 := ⟨k - 1, by omega⟩
    simp only [curtilageref02_with.l0, ofLab_len]
    rw [if_neg (by omega), List.drop_of_length_le (by omega)]
    cases done with
    | true => rw [if_pos rfl]; unfold withG; rw [List.append_nil]
    | false => rw [if_neg (by decide), if_pos (by omega), ofLab_snoc out (c, v)]; unfold withG; rfl
  | succ d ih =>
    intro k i out done hi hk ho
    obtain ⟨k, rfl⟩ : ∃ m, k = m + 2 := ⟨k - 2, by omega⟩
    have hil : i < l.length := by omega
    have hw := w64s i (by omega)
    have hx1 : (i : Int) < (l.length : Int) := by omega
    have hx0 : (0 : Int) ≤ (i : Int) := by omega
    have rest : ∀ (o : Lab) (dn : Bool), o.length ≤ 2 * i + 3 →
        (if 0 ≤ (i : Int) then (if (i : Int) < ((ofLab l).length : Int) then (if ((rd_T46 (ofLab l) (i : Int)).f0) = c then (curtilageref02_with.l0 k (ofLab l) c v (ofLab o) dn (wrap64 ((i : Int) + 1))) else (if (ofLab o).length < 8796093022208 then (curtilageref02_with.l0 k (ofLab l) c v (ofLab o ++ [(⟨(rd_T46 (ofLab l) (i : Int)).f0, (rd_T46 (ofLab l) (i : Int)).f1⟩ : S46)]) dn (wrap64 ((i : Int) + 1))) else (none))) else (none)) else (none))
        = some (ofLab (o ++ (if l[i].1 = c then withG c v (l.drop (i + 1)) dn else l[i] :: withG c v (l.drop (i + 1)) dn))) := by
      intro o dn hol
      rw [if_pos hx0, ofLab_len, if_pos hx1, rd_ofLab l i hil, hw]
      by_cases h : l[i].1 = c
      · rw [if_pos h, if_pos h]
        exact ih k (i + 1) o dn (by omega) (by omega) (by omega)
      · rw [if_neg h, if_neg h, ofLab_len, if_pos (by omega), ofLab_snoc o (l[i].1, l[i].2), ih k (i + 1) _ dn (by omega) (by omega) (by simp; omega), List.append_assoc]
        rfl
    simp only [curtilageref02_with.l0, ofLab_len]
    rw [if_pos hx1, List.drop_eq_getElem_cons hil]
    have hj : ∀ b : Bool, curtilageref02_with.j1 (k + 1) (ofLab l) c v (ofLab out) done (i : Int) b = if b = true then some (ofLab (out ++ ((c, v) :: (if l[i].1 = c then withG c v (l.drop (i + 1)) true else l[i] :: withG c v (l.drop (i + 1)) true)))) else some (ofLab (out ++ (if l[i].1 = c then withG c v (l.drop (i + 1)) done else l[i] :: withG c v (l.drop (i + 1)) done))) := by
      intro b
      simp only [curtilageref02_with.j1]
      cases b with
      | true =>
        rw [if_pos rfl, if_pos rfl, ofLab_len, if_pos (by omega), Option.bind_some, ofLab_snoc out (c, v)]
        have := rest (out ++ [(c, v)]) true (by simp; omega)
        rw [List.append_assoc] at this
        exact this
      | false =>
        rw [if_neg (show ¬ (false = true) by decide), if_neg (show ¬ (false = true) by decide)]
        exact rest out done (by omega)
    have hG : withG c v (l[i] :: l.drop (i + 1)) done = if done = false ∧ l[i].1 > c then (c, v) :: (if l[i].1 = c then withG c v (l.drop (i + 1)) true else l[i] :: withG c v (l.drop (i + 1)) true) else if l[i].1 = c then withG c v (l.drop (i + 1)) done else l[i] :: withG c v (l.drop (i + 1)) done := rfl
    rw [hG]
    cases done with
    | true =>
      rw [if_pos rfl, hj, if_neg (show ¬ (false = true) by decide), if_neg (show ¬ (true = false ∧ l[i].1 > c) from fun h => Bool.noConfusion h.1)]
    | false =>
      rw [if_neg (by decide), if_pos hx0, rd_ofLab l i hil, hj]
      by_cases h : l[i].1 > c
      · rw [if_pos (decide_eq_true h), if_pos (show false = false ∧ l[i].1 > c from ⟨rfl, h⟩)]
      · rw [if_neg (by simpa using h), if_neg (show ¬ (false = false ∧ l[i].1 > c) from fun hh => h hh.2)]
theorem rwith_f (l : Lab) (c v : Int) (hlen : l.length ≤ 3000) (k : Nat) (hk : 2 * l.length + 1 < k) : curtilageref02_with.f k (ofLab l) c v = some (ofLab (withG c v l (v == 2))) := by
  have := rwith_loop l c v hlen l.length k 0 [] (v == 2) (by omega) hk (by simp)
  rw [List.drop_zero, List.nil_append] at this
  exact this
theorem withG_mem {c v : Int} {l : Lab} {b : Bool} {p : Int × Int} (hp : p ∈ withG c v l b) : p = (c, v) ∨ (p ∈ l ∧ p.1 ≠ c) := by
  induction l generalizing b with
  | nil => cases b <;> simp [withG] at hp; exact .inl hp
  | cons q t ih =>
    have step : ∀ b', (p ∈ if q.1 = c then withG c v t b' else q :: withG c v t b') → p = (c, v) ∨ (p ∈ q :: t ∧ p.1 ≠ c) := by
      intro b' h
      by_cases hq : q.1 = c
      · rw [if_pos hq] at h
        rcases ih h with h | ⟨h, h2⟩
        · exact .inl h
        · exact .inr ⟨List.mem_cons_of_mem _ h, h2⟩
      · rw [if_neg hq] at h
        rcases List.mem_cons.1 h with rfl | h
        · exact .inr ⟨by simp, hq⟩
        · rcases ih h with h | ⟨h, h2⟩
          · exact .inl h
          · exact .inr ⟨List.mem_cons_of_mem _ h, h2⟩
    unfold withG at hp
    split at hp
    · rcases List.mem_cons.1 hp with rfl | h
      · exact .inl rfl
      · exact step true h
    · exact step b hp
/-- With the pair there already, or never to come. -/
theorem withG_true (c v : Int) (l : Lab) : withG c v l true = l.filter (fun p => p.1 != c) := by
  induction l with
  | nil => rfl
  | cons p t ih =>
    unfold withG
    rw [if_neg (by simp), ih]
    by_cases h : p.1 = c
    · rw [if_pos h, List.filter_cons_of_neg (by simpa using h)]
    · rw [if_neg h, List.filter_cons_of_pos (by simpa using h)]
theorem withG_sorted {c v : Int} {l : Lab} (h : SortedP l) (b : Bool) : SortedP (withG c v l b) := by
  cases b with
  | true => rw [withG_true]; exact List.Pairwise.filter _ h
  | false =>
    induction l with
    | nil => simp [withG, SortedP]
    | cons p t ih =>
      have ht := h.tail
      have hh := h.head
      unfold withG
      by_cases h1 : p.1 > c
      · rw [if_pos ⟨rfl, h1⟩, if_neg (by omega), withG_true]
        refine List.pairwise_cons.2 ⟨?_, List.pairwise_cons.2 ⟨?_, List.Pairwise.filter _ ht⟩⟩
        · intro q hq
          rcases List.mem_cons.1 hq with rfl | hq
          · exact h1
          · have := hh q (List.mem_filter.1 hq).1; show c < q.1; omega
        · intro q hq; exact hh q (List.mem_filter.1 hq).1
      · rw [if_neg (by simpa using h1)]
        by_cases h2 : p.1 = c
        · rw [if_pos h2]; exact ih ht
        · rw [if_neg h2]
          refine List.pairwise_cons.2 ⟨?_, ih ht⟩
          intro q hq
          rcases withG_mem hq with rfl | ⟨hq, _⟩
          · show p.1 < c; omega
          · exact hh q hq
theorem filter_get (c x : Int) (l : Lab) : getL (l.filter (fun p => p.1 != c)) x = if x = c then 2 else getL l x := by
  induction l with
  | nil => rw [List.filter_nil, getL_nil]; simp
  | cons p t ih =>
    by_cases h : p.1 = c
    · rw [List.filter_cons_of_neg (by simpa using h), ih, getL_cons]
      by_cases hx : x = c
      · rw [if_pos hx, if_pos hx]
      · rw [if_neg hx, if_neg hx, if_neg (by omega)]
    · rw [List.filter_cons_of_pos (by simpa using h), getL_cons, getL_cons, ih]
      by_cases hp : p.1 = x
      · rw [if_pos hp, if_pos hp, if_neg (by omega)]
      · rw [if_neg hp, if_neg hp]
theorem withG_get {c v : Int} (l : Lab) (x : Int) : getL (withG c v l false) x = if x = c then v else getL l x := by
  induction l with
  | nil => unfold withG; rw [getL_cons, getL_nil]; simp only [eq_comm]
  | cons p t ih =>
    unfold withG
    by_cases h1 : p.1 > c
    · rw [if_pos ⟨rfl, h1⟩, if_neg (by omega), withG_true, getL_cons, getL_cons, filter_get, getL_cons]
      by_cases hx : x = c
      · rw [if_pos hx.symm, if_pos hx]
      · rw [if_neg (by omega), if_neg hx, if_neg hx]
    · rw [if_neg (by simpa using h1), getL_cons]
      by_cases h2 : p.1 = c
      · rw [if_pos h2, ih]
        by_cases hx : x = c
        · rw [if_pos hx, if_pos hx]
        · rw [if_neg hx, if_neg hx, if_neg (by omega)]
      · rw [if_neg h2, getL_cons, ih]
        by_cases hx : x = c
        · rw [if_neg (by omega), if_pos hx, if_pos hx]
        · rw [if_neg hx, if_neg hx]
/-- What 'with' makes of a fit label. -/
def setL (l : Lab) (c v : Int) : Lab := withG c v l (v == 2)
theorem setL_get (l : Lab) (c v x : Int) : getL (setL l c v) x = if x = c then v else getL l x := by
  unfold setL
  by_cases h : v = 2
  · subst h; rw [show ((2 : Int) == 2) = true from rfl, withG_true, filter_get]
  · rw [beq_eq_false_iff_ne.2 h, withG_get]
theorem setL_fit {l : Lab} (h : FitL l) (c v : Int) (hv : 0 ≤ v ∧ v ≤ 5) : FitL (setL l c v) := by
  refine ⟨withG_sorted h.sorted _, fun p hp => ?_⟩
  unfold setL at hp
  by_cases h2 : v = 2
  · subst h2
    rw [show ((2 : Int) == 2) = true from rfl, withG_true] at hp
    exact h.lev p (List.mem_filter.1 hp).1
  · rcases withG_mem hp with rfl | ⟨hp, _⟩
    · exact ⟨hv.1, hv.2, h2⟩
    · exact h.lev p hp
theorem setL_len (l : Lab) (c v : Int) : (setL l c v).length ≤ l.length + 1 := withG_len c v l _
/-- Levels set one behind the other. -/
def setAll (val : Int → Int) (o : Lab) (cs : List Int) : Lab := cs.foldl (fun o c => setL o c (val c)) o
theorem setAll_len (val : Int → Int) (cs : List Int) : ∀ o : Lab, (setAll val o cs).length ≤ o.length + cs.length := by
  induction cs with
  | nil => intro o; simp [setAll]
  | cons c cs ih =>
    intro o
    have h1 := ih (setL o c (val c))
    have h2 := setL_len o c (val c)
    unfold setAll at h1 ⊢
    simp only [List.foldl_cons, List.length_cons]
    omega
theorem setAll_fit {val : Int → Int} (hv : ∀ c, 0 ≤ val c ∧ val c ≤ 5) (cs : List Int) : ∀ {o : Lab}, FitL o → FitL (setAll val o cs) := by
  induction cs with
  | nil => intro o h; exact h
  | cons c cs ih => intro o h; exact ih (setL_fit h c (val c) (hv c))
theorem setAll_get (val : Int → Int) (cs : List Int) (x : Int) : ∀ o : Lab, getL (setAll val o cs) x = if x ∈ cs then val x else getL o x := by
  induction cs with
  | nil => intro o; simp [setAll]
  | cons c cs ih =>
    intro o
    have := ih (setL o c (val c))
    unfold setAll at this ⊢
    rw [List.foldl_cons, this, setL_get]
    by_cases h : x ∈ cs
    · rw [if_pos h, if_pos (List.mem_cons_of_mem _ h)]
    · rw [if_neg h]
      by_cases hx : x = c
      · subst hx; rw [if_pos rfl, if_pos (by simp)]
      · rw [if_neg hx, if_neg (by simp [hx, h])]
theorem setAll_both {F : Int → Int → Int} (hF2 : F 2 2 = 2) {a b : Lab} (fa : FitL a) (fb : FitL b) (x : Int) :
    getL (setAll (fun c => F (getL a c) (getL b c)) (setAll (fun c => F (getL a c) (getL b c)) a (a.map (·.1))) (b.map (·.1))) x = F (getL a x) (getL b x) := by
  rw [setAll_get, setAll_get]
  by_cases hb : x ∈ b.map (·.1)
  · rw [if_pos hb]
  · rw [if_neg hb]
    by_cases ha : x ∈ a.map (·.1)
    · rw [if_pos ha]
    · rw [if_neg ha]
      have ea : getL a x = 2 := getL_out fun p hp he => ha (List.mem_map.2 ⟨p, hp, he⟩)
      have eb : getL b x = 2 := getL_out fun p hp he => hb (List.mem_map.2 ⟨p, hp, he⟩)
      rw [ea, eb, hF2]
theorem rjoin_loop1 (a b : Lab) (fb : FitL b) (ha : a.length ≤ 400) (hb : b.length ≤ 400) : ∀ (d k i : Nat) (o : Lab), i + d = b.length → d + 2000 < k → o.length ≤ 400 + i →
    curtilageref02_Join.l1 k (ofLab a) (ofLab b) (ofLab o) (i : Int) = some (ofLab (setAll (fun c => upL (getL a c) (getL b c)) o ((b.drop i).map (·.1)))) := by
  intro d
  induction d with
  | zero =>
    intro k i o hi hk ho
    obtain ⟨k, rfl⟩ : ∃ m, k = m + 1 := ⟨k - 1, by omega⟩
    simp only [curtilageref02_Join.l1, ofLab_len]
    rw [if_neg (by omega), List.drop_of_length_le (by omega)]
    rfl
  | succ d ih =>
    intro k i o hi hk ho
    obtain ⟨k, rfl⟩ : ∃ m, k = m + 1 := ⟨k - 1, by omega⟩
    have hil : i < b.length := by omega
    have hw := w64s i (by omega)
    have hol := setL_len o b[i].1 (upL (getL a b[i].1) b[i].2)
    have hg : b[i].2 = getL b b[i].1 := (getL_mem fb.sorted (List.getElem_mem hil)).symm
    simp only [curtilageref02_Join.l1, ofLab_len]
    rw [if_pos (by omega), if_pos (by omega), rd_ofLab b i hil]
    simp only []
    rw [rget_f a _ (by omega) k (by omega), Option.bind_some, r1join, Option.bind_some, rwith_f o _ _ (by omega) k (by omega), Option.bind_some, hw]
    refine Eq.trans (ih k (i + 1) (setL o b[i].1 (upL (getL a b[i].1) b[i].2)) (by omega) (by omega) (by omega)) ?_
    rw [List.drop_eq_getElem_cons hil, List.map_cons]
    conv => lhs; rw [hg]
    rfl
theorem rjoin_loop0 (a b : Lab) (fa : FitL a) (fb : FitL b) (ha : a.length ≤ 400) (hb : b.length ≤ 400) : ∀ (d k i : Nat) (o : Lab), i + d = a.length → d + 3000 < k → o.length ≤ a.length + i →
    (∀ hz : a.length + a.length ≤ 400, curtilageref02_Join.l0 k (ofLab a) (ofLab b) (ofLab o) (i : Int) = some (ofLab (setAll (fun c => upL (getL a c) (getL b c)) (setAll (fun c => upL (getL a c) (getL b c)) o ((a.drop i).map (·.1))) (b.map (·.1))))) := by
  intro d
  induction d with
  | zero =>
    intro k i o hi hk ho hz
    obtain ⟨k, rfl⟩ : ∃ m, k = m + 1 := ⟨k - 1, by omega⟩
    simp only [curtilageref02_Join.l0, ofLab_len]
    rw [if_neg (by omega), List.drop_of_length_le (by omega)]
    have := rjoin_loop1 a b fb ha hb b.length k 0 o (by omega) (by omega) (by omega)
    rw [List.drop_zero] at this
    exact this
  | succ d ih =>
    intro k i o hi hk ho hz
    obtain ⟨k, rfl⟩ : ∃ m, k = m + 1 := ⟨k - 1, by omega⟩
    have hil : i < a.length := by omega
    have hw := w64s i (by omega)
    have hol := setL_len o a[i].1 (upL a[i].2 (getL b a[i].1))
    have hg : a[i].2 = getL a a[i].1 := (getL_mem fa.sorted (List.getElem_mem hil)).symm
    simp only [curtilageref02_Join.l0, ofLab_len]
    rw [if_pos (by omega), if_pos (by omega), rd_ofLab a i hil]
    simp only []
    rw [rget_f b _ (by omega) k (by omega), Option.bind_some, r1join, Option.bind_some, rwith_f o _ _ (by omega) k (by omega), Option.bind_some, hw]
    refine Eq.trans (ih k (i + 1) (setL o a[i].1 (upL a[i].2 (getL b a[i].1))) (by omega) (by omega) (by omega) hz) ?_
    rw [List.drop_eq_getElem_cons hil, List.map_cons]
    conv => lhs; rw [hg]
    rfl


theorem rjoin_f {a b : Lab} (fa : FitL a) (fb : FitL b) (ha : a.length ≤ 200) (hb : b.length ≤ 200) (k : Nat) (hk : 4000 ≤ k) : curtilageref02_Join.f k (ofLab a) (ofLab b) = some (ofLab (joinB a b)) := by
  have := rjoin_loop0 a b fa fb (by omega) (by omega) a.length k 0 a (by omega) (by omega) (by omega) (by omega)
  rw [List.drop_zero] at this
  unfold curtilageref02_Join.f
  refine Eq.trans this ?_
  have hv : ∀ c, 0 ≤ upL (getL a c) (getL b c) ∧ upL (getL a c) (getL b c) ≤ 5 := fun c => upL_range _ _
  rw [lab_ext (setAll_fit hv _ (setAll_fit hv _ fa)) (join_fit fa fb) (fun c => by
    rw [setAll_both (F := upL) rfl fa fb, join_get fa fb]
    unfold upL
    rw [ofL_get fa, ofL_get fb]
    split <;> omega)]
theorem leq_iff {a b : Lab} (ha : FitL a) (hb : FitL b) : leqB a b = true ↔ ∀ c, getL a c ≤ getL b c := leqB_iff ha hb
theorem leq_refl {a : Lab} (ha : FitL a) : leqB a a = true := (leqB_iff ha ha).2 fun _ => Int.le_refl _
theorem leq_trans {a b c : Lab} (ha : FitL a) (hb : FitL b) (hc : FitL c) (h1 : leqB a b = true) (h2 : leqB b c = true) : leqB a c = true :=
  (leqB_iff ha hc).2 fun x => Int.le_trans ((leqB_iff ha hb).1 h1 x) ((leqB_iff hb hc).1 h2 x)
theorem leq_antisymm {a b : Lab} (ha : FitL a) (hb : FitL b) (h1 : leqB a b = true) (h2 : leqB b a = true) : a = b :=
  lab_ext ha hb fun c => Int.le_antisymm ((leqB_iff ha hb).1 h1 c) ((leqB_iff hb ha).1 h2 c)
theorem leq_join {a b : Lab} (ha : FitL a) (hb : FitL b) : leqB a (joinB a b) = true ∧ leqB b (joinB a b) = true :=
  ⟨(leqB_iff ha (join_fit ha hb)).2 fun c => by rw [join_get ha hb]; omega, (leqB_iff hb (join_fit ha hb)).2 fun c => by rw [join_get ha hb]; omega⟩
theorem meet_leq {a b : Lab} (ha : FitL a) (hb : FitL b) : leqB (meetB a b) a = true ∧ leqB (meetB a b) b = true :=
  ⟨(leqB_iff (meet_fit ha hb) ha).2 fun c => by rw [meet_get ha hb]; omega, (leqB_iff (meet_fit ha hb) hb).2 fun c => by rw [meet_get ha hb]; omega⟩
theorem join_least {a b c : Lab} (ha : FitL a) (hb : FitL b) (hc : FitL c) (h1 : leqB a c = true) (h2 : leqB b c = true) : leqB (joinB a b) c = true :=
  (leqB_iff (join_fit ha hb) hc).2 fun x => by
    have := (leqB_iff ha hc).1 h1 x
    have := (leqB_iff hb hc).1 h2 x
    rw [join_get ha hb]; omega
theorem meet_greatest {a b c : Lab} (ha : FitL a) (hb : FitL b) (hc : FitL c) (h1 : leqB c a = true) (h2 : leqB c b = true) : leqB c (meetB a b) = true :=
  (leqB_iff hc (meet_fit ha hb)).2 fun x => by
    have := (leqB_iff hc ha).1 h1 x
    have := (leqB_iff hc hb).1 h2 x
    rw [meet_get ha hb]; omega
end Go.Proofs.Ytkajfadhlgmcjaa.PC
