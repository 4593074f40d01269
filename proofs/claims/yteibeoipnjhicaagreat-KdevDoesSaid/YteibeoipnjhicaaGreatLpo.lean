import Derived.Test.YteibeoipnjhicaaGreatLpl
import Derived.Test.YteibeoipnjhicaaGreatEcf
import Derived.Test.YteibeoipnjhicaaGreatEc3
namespace Go.Proofs.YteibeoipnjhicaaGreat
open Go Go.RowKit
set_option linter.unusedVariables false
set_option linter.unusedSimpArgs false
def fnd (l : List Ob) (id : Int) : Option Ob := l.find? (fun x => x.id == id)
theorem RisO.tail {x : Ob} {l : List Ob} (h : RisO (x :: l)) : RisO l := fun i j a b ha hb hij => h (i + 1) (j + 1) a b (by simpa using ha) (by simpa using hb) (by omega)
theorem RisO.head {x : Ob} {l : List Ob} (h : RisO (x :: l)) : ∀ y ∈ l, x.id < y.id := fun y hy => by
  obtain ⟨k, hk⟩ := List.getElem?_of_mem hy
  exact h 0 (k + 1) x y rfl (by simpa using hk) (by omega)
theorem RisO.cons {x : Ob} {l : List Ob} (h1 : ∀ y ∈ l, x.id < y.id) (h2 : RisO l) : RisO (x :: l) := fun i j a b ha hb hij => by
  cases j with
  | zero => omega
  | succ j =>
    have hb' : l[j]? = some b := by simpa using hb
    cases i with
    | zero => simp at ha; subst ha; exact h1 b (List.mem_of_getElem? hb')
    | succ i => exact h2 i j a b (by simpa using ha) hb' (by omega)
theorem q4m (x : Ob) (l : List Ob) (id : Int) : fnd (x :: l) id = if x.id = id then some x else fnd l id := by
  unfold fnd
  rw [List.find?_cons]
  by_cases h : x.id = id
  · rw [if_pos h]; simp [h]
  · rw [if_neg h]; have : (x.id == id) = false := by simpa using h
    rw [this]
theorem fnd_none {l : List Ob} {id : Int} (h : ∀ x ∈ l, x.id ≠ id) : fnd l id = none := by
  unfold fnd; rw [List.find?_eq_none]; intro x hx; simpa using h x hx
theorem fnd_some {l : List Ob} {id : Int} {x : Ob} (h : fnd l id = some x) : x ∈ l ∧ x.id = id := by
  unfold fnd at h
  exact ⟨List.mem_of_find?_eq_some h, by simpa using List.find?_some h⟩
theorem ris_ext {l k : List Ob} (hl : RisO l) (hk : RisO k) (h : ∀ id, fnd l id = fnd k id) : l = k := by
  induction l generalizing k with
  | nil =>
    cases k with
    | nil => rfl
    | cons y k => have := h y.id; rw [q4m, if_pos rfl] at this; cases this
  | cons x l ih =>
    cases k with
    | nil => have := h x.id; rw [q4m, if_pos rfl] at this; cases this
    | cons y k =>
      have hx := h x.id
      have hy := h y.id
      rw [q4m, if_pos rfl, q4m] at hx
      rw [q4m, q4m, if_pos rfl] at hy
      have e : x.id = y.id := by
        by_cases e : y.id = x.id
        · exact e.symm
        · rw [if_neg e] at hx
          obtain ⟨h1, _⟩ := fnd_some hx.symm
          have h2 := hk.head x h1
          rw [if_neg (fun q => e q.symm)] at hy
          obtain ⟨h3, _⟩ := fnd_some hy
          have h4 := hl.head y h3
          omega
      rw [if_pos e.symm] at hx
      cases hx
      rw [ih hl.tail hk.tail (fun id => ?_)]
      by_cases e2 : x.id = id
      · rw [fnd_none (fun z hz => by have := hl.head z hz; omega), fnd_none (fun z hz => by have := hk.head z hz; omega)]
      · have := h id
        rw [q4m, q4m, if_neg e2, if_neg e2] at this
        exact this
/-- With one, by recursion. -/
def insR (o : Ob) : List Ob → List Ob
  | [] => [o]
  | x :: l => if x.id < o.id then x :: insR o l else if x.id = o.id then o :: l else o :: x :: l
theorem insR_mem {o : Ob} {l : List Ob} {y : Ob} (h : y ∈ insR o l) : y = o ∨ y ∈ l := by
  induction l with
  | nil => simp [insR] at h; exact .inl h
  | cons x l ih =>
    unfold insR at h
    split at h
    · rcases List.mem_cons.1 h with rfl | h
      · exact .inr (by simp)
      · rcases ih h with h | h
        · exact .inl h
        · exact .inr (by simp [h])
    · split at h
      · rcases List.mem_cons.1 h with h | h
        · exact .inl h
        · exact .inr (by simp [h])
      · rcases List.mem_cons.1 h with h | h
        · exact .inl h
        · exact .inr h
theorem insR_ris {o : Ob} {l : List Ob} (h : RisO l) : RisO (insR o l) := by
  induction l with
  | nil => exact RisO.cons (fun y hy => by cases hy) (fun i j a b ha => by simp at ha)
  | cons x l ih =>
    unfold insR
    split
    · rename_i hx
      refine RisO.cons (fun y hy => ?_) (ih h.tail)
      rcases insR_mem hy with rfl | hy
      · exact hx
      · exact h.head y hy
    · split
      · rename_i h1 h2
        exact RisO.cons (fun y hy => by have := h.head y hy; omega) h.tail
      · rename_i h1 h2
        refine RisO.cons (fun y hy => ?_) h
        rcases List.mem_cons.1 hy with rfl | hy
        · omega
        · have := h.head y hy; omega
theorem insR_fnd {o : Ob} {l : List Ob} (h : RisO l) (id : Int) : fnd (insR o l) id = if o.id = id then some o else fnd l id := by
  induction l with
  | nil => unfold insR; rw [q4m]
  | cons x l ih =>
    unfold insR
    split
    · rename_i hx
      rw [q4m, ih h.tail, q4m]
      by_cases e1 : x.id = id
      · rw [if_pos e1, if_neg (by omega), if_pos e1]
      · rw [if_neg e1, if_neg e1]
    · split
      · rename_i h1 h2
        rw [q4m, q4m]
        by_cases e1 : o.id = id
        · rw [if_pos e1, if_pos e1]
        · rw [if_neg e1, if_neg e1, if_neg (by omega)]
      · rw [q4m]
theorem posO_cons (x : Ob) (l : List Ob) (id : Int) : posO (x :: l) id = if x.id < id then posO l id + 1 else 0 := by
  unfold posO
  rw [List.takeWhile_cons]
  by_cases h : x.id < id
  · rw [if_pos (decide_eq_true h), if_pos h]; rfl
  · rw [if_neg (by simpa using h), if_neg h]; rfl
theorem hitO_cons (x : Ob) (l : List Ob) (id : Int) : hitO (x :: l) id = if x.id < id then hitO l id else x.id == id := by
  unfold hitO
  rw [posO_cons]
  by_cases h : x.id < id
  · rw [if_pos h, if_pos h]; simp only [List.getElem?_cons_succ]
  · rw [if_neg h, if_neg h]; simp only [List.getElem?_cons_zero]
theorem withL_ins (l : List Ob) (o : Ob) : withL l o = insR o l := by
  induction l with
  | nil => rfl
  | cons x l ih =>
    unfold withL insR
    rw [hitO_cons, posO_cons]
    by_cases h : x.id < o.id
    · simp only [if_pos h]
      rw [← ih]
      unfold withL
      split <;> simp
    · simp only [if_neg h]
      by_cases e : x.id = o.id
      · simp [e]
      · have : (x.id == o.id) = false := by simpa using e
        simp [this, e]
theorem hit_fnd {l : List Ob} (h : RisO l) (id : Int) : (if hitO l id = true then l[posO l id]? else none) = fnd l id := by
  induction l with
  | nil => rfl
  | cons x l ih =>
    rw [hitO_cons, posO_cons, q4m]
    by_cases h1 : x.id < id
    · simp only [if_pos h1, List.getElem?_cons_succ]
      rw [ih h.tail, if_neg (by omega)]
    · simp only [if_neg h1, List.getElem?_cons_zero]
      by_cases e : x.id = id
      · simp [e]
      · have : (x.id == id) = false := by simpa using e
        simp only [this, Bool.false_eq_true, if_false, if_neg e]
        rw [fnd_none (fun y hy => by have := h.head y hy; omega)]
theorem stp_done {o : Ob} : ∀ (l : List Ob) (acc : List Ob), (∀ x ∈ l, o.id < x.id) → l.foldl (stpR o) (acc, true) = (acc ++ l, true)
  | [], acc, _ => by simp
  | x :: l, acc, h => by
    have hx := h x (by simp)
    have e : stpR o (acc, true) x = (acc ++ [x], true) := by
      rw [q9a rfl rfl (beq_eq_false_iff_ne.2 (by omega : x.id ≠ o.id))]; rfl
    rw [List.foldl_cons, e, stp_done l _ (fun y hy => h y (by simp [hy]))]; simp
theorem putL_acc {o : Ob} : ∀ (l : List Ob) (acc : List Ob), RisO l → (let s := l.foldl (stpR o) (acc, false); if s.2 = true then s.1 else s.1 ++ [o]) = acc ++ insR o l
  | [], acc, _ => rfl
  | x :: l, acc, h => by
    rw [List.foldl_cons]
    unfold insR
    by_cases h1 : x.id < o.id
    · have e : stpR o (acc, false) x = (acc ++ [x], false) := by
        rw [q9a rfl (decide_eq_false (by omega)) (beq_eq_false_iff_ne.2 (by omega : x.id ≠ o.id))]; rfl
      rw [e, putL_acc l _ h.tail, if_pos h1]; simp
    · rw [if_neg h1]
      by_cases e1 : x.id = o.id
      · have e : stpR o (acc, false) x = (acc ++ [o], true) := by
          rw [q9a rfl (decide_eq_true (by omega)) (beq_iff_eq.2 e1)]; rfl
        rw [e, stp_done l _ (fun y hy => by have := h.head y hy; omega), if_pos e1]; simp
      · have e : stpR o (acc, false) x = (acc ++ [o] ++ [x], true) := by
          rw [q9a rfl (decide_eq_true (by omega)) (beq_eq_false_iff_ne.2 e1)]; rfl
        rw [e, stp_done l _ (fun y hy => by have := h.head y hy; omega), if_neg e1]; simp
theorem putL_ins {o : Ob} {l : List Ob} (h : RisO l) : putL l o = insR o l := by
  have := putL_acc (o := o) l [] h
  simpa [putL] using this
theorem insR_len (o : Ob) (l : List Ob) : (insR o l).length ≤ l.length + 1 := by
  induction l with
  | nil => simp [insR]
  | cons x l ih => unfold insR; split <;> (try split) <;> simp <;> omega
/-- Fit worlds. -/
theorem q5d {w : Wd} (h : q5h w = true) : RisO w.objects ∧ (∀ x ∈ w.objects, sound x = true) ∧ w.objects.length ≤ 1024 ∧ decide (w.time < 0) = false ∧ decide (w.time > 1099511627776) = false := by
  unfold q5h at h
  simp only [Bool.and_eq_true, Bool.not_eq_true'] at h
  obtain ⟨⟨h1, h2, h3⟩, h4⟩ := h
  have hat := allB_iff.1 h4
  have snd : ∀ x ∈ w.objects, sound x = true := fun x hx => by
    obtain ⟨k, hk⟩ := List.getElem?_of_mem hx
    have := hat k (q5f hk)
    unfold obAt at this; rw [hk] at this
    simp only [Bool.and_eq_true] at this
    exact this.1
  have adj : ∀ (k : Nat) (x y : Ob), w.objects[k]? = some x → w.objects[k + 1]? = some y → x.id < y.id := fun k x y hx hy => by
    have := hat (k + 1) (q5f hy)
    unfold obAt at this; rw [hy] at this
    simp only [hx, Bool.and_eq_true, Bool.not_eq_true', decide_eq_false_iff_not] at this
    omega
  have far : ∀ (d i : Nat) (x y : Ob), w.objects[i]? = some x → w.objects[i + d + 1]? = some y → x.id < y.id := by
    intro d
    induction d with
    | zero => intro i x y hx hy; exact adj i x y hx hy
    | succ d ih =>
      intro i x y hx hy
      obtain ⟨z, hz⟩ := q3j (by have := q5f hy; omega : i + d + 1 < w.objects.length)
      have h1 := ih i x z hx hz
      have h2 := adj (i + d + 1) z y hz (by rw [show i + d + 1 + 1 = i + (d + 1) + 1 by omega]; exact hy)
      omega
  refine ⟨fun i j x y hx hy hij => far (j - i - 1) i x y hx (by rw [show i + (j - i - 1) + 1 = j by omega]; exact hy), snd, ?_, h1, h2⟩
  have := of_decide_eq_false h3; omega
theorem ris_fit {w : Wd} (hr : RisO w.objects) (hs : ∀ x ∈ w.objects, sound x = true) (hl : w.objects.length ≤ 1024) (h1 : decide (w.time < 0) = false) (h2 : decide (w.time > 1099511627776) = false) : q5h w = true := by
  unfold q5h
  rw [h1, h2, decide_eq_false (by omega : ¬ ((w.objects.length : Int) > 1024))]
  simp only [Bool.not_false, Bool.true_and]
  refine q3v fun k hk => ?_
  obtain ⟨x, hx⟩ := q3j hk
  unfold obAt; rw [hx]
  simp only [hs x (List.mem_of_getElem? hx), Bool.true_and]
  cases k with
  | zero => rfl
  | succ j =>
    obtain ⟨y, hy⟩ := q3j (by omega : j < w.objects.length)
    simp only [hy]
    have := hr j (j + 1) y x hy hx (by omega)
    simp; omega
theorem findO_eq {w : Wd} (h : RisO w.objects) (id : Int) : findO w id = q2p w id := by
  have := hit_fnd h id
  unfold findO q2p
  unfold fnd at this
  cases hh : hitO w.objects id with
  | true =>
    obtain ⟨x, hx, _⟩ := hit_lt hh
    rw [hh, if_pos rfl, hx] at this
    rw [← this, if_pos rfl, hx]; rfl
  | false =>
    rw [hh, if_neg (by simp)] at this
    rw [← this, if_neg (by simp)]
theorem findR_fnd (w : Wd) (id : Int) : q2p w id = match fnd w.objects id with | some x => (x, true) | none => (Ob.zero, false) := rfl
theorem putW_eq {w : Wd} {o : Ob} (h : RisO w.objects) (hl : w.objects.length ≤ 1000) : putW w o = { w with objects := insR o w.objects } ∧ putR w o = { w with objects := insR o w.objects } := by
  have := insR_len o w.objects
  unfold putW putR
  rw [withL_ins, putL_ins h, if_pos (decide_eq_true (by omega)), if_neg (by simp; omega)]
  exact ⟨rfl, rfl⟩
end Go.Proofs.YteibeoipnjhicaaGreat
