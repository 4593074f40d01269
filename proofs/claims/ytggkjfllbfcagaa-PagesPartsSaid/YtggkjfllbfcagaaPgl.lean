import Derived.Test.YtggkjfllbfcagaaEb2
namespace Go.Proofs.Ytggkjfllbfcagaa
open Go Go.RowKit
set_option linter.unusedVariables false
set_option linter.unusedSimpArgs false
set_option maxHeartbeats 4000000
/-! Maps of an address space, in plain terms. -/
--BEGIN
def OneM (m : Mp) : Prop := 0 ≤ m.va ∧ m.va < 1048576 ∧ 0 ≤ m.off ∧ m.off < 1048576 ∧ 1 ≤ m.n ∧ m.n ≤ 1048576 - m.va ∧ m.n ≤ 1048576 - m.off
theorem mapOne_iff (m : Mp) : mapOne m = true ↔ OneM m := by
  unfold mapOne OneM
  simp only [Bool.and_eq_true, decide_eq_true_eq]
  constructor
  · rintro ⟨h1, h2, h3, h4, h5, h6, h7, h8⟩
    rw [IntKind.wrap_i64] at h7 h8
    omega
  · rintro ⟨h1, h2, h3, h4, h5, h6, h7⟩
    rw [IntKind.wrap_i64, IntKind.wrap_i64]
    omega
structure FitM (l : List Mp) : Prop where
  len : l.length ≤ 16
  one : ∀ x ∈ l, OneM x
  dj : l.Pairwise fun x y => x.va + x.n ≤ y.va
theorem mapFit_iff (l : List Mp) : mapFit l = true ↔ FitM l := by
  unfold mapFit
  simp only [Bool.and_eq_true, decide_eq_true_eq, allB_iff]
  constructor
  · rintro ⟨h1, h2⟩
    have ho : ∀ i (hi : i < l.length), OneM l[i] := fun i hi => by
      have := h2 i hi
      unfold mapAt at this
      rw [List.getElem?_eq_getElem hi] at this
      simp only [Bool.and_eq_true] at this
      exact (mapOne_iff _).1 this.1
    have hs : ∀ i (hi : i + 1 < l.length), l[i].va + l[i].n ≤ l[i + 1].va := fun i hi => by
      have := h2 (i + 1) hi
      unfold mapAt at this
      rw [List.getElem?_eq_getElem hi] at this
      simp only [Bool.and_eq_true] at this
      have h3 := this.2
      rw [List.getElem?_eq_getElem (by omega : i < l.length)] at h3
      simp only [Bool.not_eq_true', decide_eq_false_iff_not] at h3
      have := ho i (by omega)
      unfold OneM at this
      rw [IntKind.wrap_i64] at h3
      omega
    refine ⟨h1, fun x hx => ?_, ?_⟩
    · obtain ⟨i, hi, rfl⟩ := List.getElem_of_mem hx
      exact ho i hi
    · rw [List.pairwise_iff_getElem]
      intro i j hi hj hij
      induction j with
      | zero => omega
      | succ j ih =>
        rcases Nat.lt_or_ge i j with h | h
        · have a1 := ih (by omega) h
          have a2 := hs j hj
          have a3 := ho j (by omega)
          unfold OneM at a3
          omega
        · obtain rfl : i = j := by omega
          exact hs i hj
  · intro h
    refine ⟨h.len, fun j hj => ?_⟩
    unfold mapAt
    rw [List.getElem?_eq_getElem hj]
    simp only [Bool.and_eq_true]
    refine ⟨(mapOne_iff _).2 (h.one _ (List.getElem_mem hj)), ?_⟩
    cases j with
    | zero => rfl
    | succ j =>
      simp only
      rw [List.getElem?_eq_getElem (by omega : j < l.length)]
      simp only [Bool.not_eq_true', decide_eq_false_iff_not]
      have a1 := (List.pairwise_iff_getElem.1 h.dj) j (j + 1) (by omega) hj (by omega)
      have a2 := h.one _ (List.getElem_mem (by omega : j < l.length))
      unfold OneM at a2
      rw [IntKind.wrap_i64]
      omega
def inM (page : Int) (x : Mp) : Bool := decide (page ≥ x.va) && decide (page < x.va + x.n)
def FM (l : List Mp) (page : Int) : Option Mp := l.find? (inM page)
def meetM (m x : Mp) : Bool := decide (x.va < m.va + m.n) && decide (m.va < x.va + x.n)
def posV (l : List Mp) (n : Int) : Nat := (l.takeWhile (fun x => decide (x.va < n))).length
def posE (l : List Mp) (n : Int) : Nat := (l.takeWhile (fun x => decide (x.va + x.n < n))).length
def insV (l : List Mp) (m : Mp) : List Mp := l.take (posV l m.va) ++ m :: l.drop (posV l m.va)
def putM (l : List Mp) (m : Mp) : List Mp × Int := if mapOne m = true then (if l.any (meetM m) = true then (l, 12) else if 16 ≤ l.length then (l, 6) else (insV l m, 0)) else (l, 4)
def dropM (l : List Mp) (va : Int) : List Mp × Int := if (l.any fun x => x.va == va) = true then (l.filter fun x => !(x.va == va), 0) else (l, 1)
def findM (l : List Mp) (page : Int) : Mp × Int × Bool := match FM l page with
  | some x => (x, x.off + page - x.va, true)
  | none => (Mp.zero, 0, false)
theorem mem_tw {α : Type} {p : α → Bool} {x : α} : ∀ {l : List α}, x ∈ l.takeWhile p → p x = true
  | [], h => by simp at h
  | a :: l, h => by
    rw [List.takeWhile_cons] at h
    split at h
    · rename_i ha
      rcases List.mem_cons.1 h with rfl | h
      · exact ha
      · exact mem_tw h
    · cases h
theorem pos_app {p : Mp → Bool} {A B : List Mp} (hA : ∀ x ∈ A, p x = true) (hB : ∀ x, B[0]? = some x → p x = false) : ((A ++ B).takeWhile p).length = A.length := by
  have : (A ++ B).takeWhile p = A := by
    rw [List.takeWhile_append_of_pos hA]
    cases B with
    | nil => simp
    | cons b B => rw [List.takeWhile_cons, if_neg (by rw [hB b rfl]; simp), List.append_nil]
  rw [this]
/-- A map that meets none parts the maps into those below it and those above. -/
structure Parted (l : List Mp) (m : Mp) (A B : List Mp) : Prop where
  eq : l = A ++ B
  lo : ∀ x ∈ A, x.va + x.n ≤ m.va
  hi : ∀ x ∈ B, m.va + m.n ≤ x.va
theorem parted {l : List Mp} {m : Mp} (h : FitM l) (hm : OneM m) (hn : l.any (meetM m) = false) : ∃ A B, Parted l m A B := by
  have hn' : ∀ x ∈ l, ¬ (x.va < m.va + m.n ∧ m.va < x.va + x.n) := fun x hx hc => by
    have := List.any_eq_false.1 hn x hx
    unfold meetM at this
    simp only [Bool.and_eq_true, decide_eq_true_eq] at this
    exact this hc
  refine ⟨l.takeWhile (fun x => decide (x.va < m.va)), l.dropWhile (fun x => decide (x.va < m.va)), (List.takeWhile_append_dropWhile).symm, fun x hx => ?_, fun x hx => ?_⟩
  · have h1 := mem_tw hx
    have h1 := of_decide_eq_true h1
    have h2 := hn' x ((List.takeWhile_sublist _).subset hx)
    have h3 := hm.2.2.2.2.1
    omega
  · have hx' := (List.dropWhile_sublist _).subset hx
    have h2 := hn' x hx'
    have h4 := h.one x hx'
    unfold OneM at h4
    have hva : m.va ≤ x.va := by
      have hp : (l.dropWhile (fun x => decide (x.va < m.va))).Pairwise fun x y => x.va + x.n ≤ y.va := h.dj.sublist (List.dropWhile_sublist _)
      cases hd : l.dropWhile (fun x => decide (x.va < m.va)) with
      | nil => rw [hd] at hx; cases hx
      | cons b t =>
        have hb : decide (b.va < m.va) = false := by
          have := List.head?_dropWhile_not (fun x : Mp => decide (x.va < m.va)) l
          rw [hd] at this; simpa using this
        have hb' := of_decide_eq_false hb
        rw [hd] at hx hp
        rcases List.mem_cons.1 hx with rfl | hx
        · omega
        · have := (List.pairwise_cons.1 hp).1 x hx
          have hbl : b ∈ l := (List.dropWhile_sublist _).subset (by rw [hd]; simp)
          have := h.one b hbl
          unfold OneM at this
          omega
    omega
section
variable {l A B : List Mp} {m : Mp}
theorem Parted.pos (hp : Parted l m A B) (hm : 1 ≤ m.n) (ho : ∀ x ∈ l, 1 ≤ x.n) {n : Int} (h1 : m.va ≤ n) (h2 : n ≤ m.va + m.n) : posV l n = A.length := by
  unfold posV
  rw [hp.eq]
  refine pos_app (fun x hx => ?_) (fun x hx => ?_)
  · have := hp.lo x hx
    have := ho x (by rw [hp.eq]; exact List.mem_append_left _ hx)
    exact decide_eq_true (by omega)
  · have := hp.hi x (List.mem_of_getElem? hx)
    exact decide_eq_false (by omega)
theorem Parted.ins (hp : Parted l m A B) (hm : 1 ≤ m.n) (ho : ∀ x ∈ l, 1 ≤ x.n) : insV l m = A ++ m :: B := by
  unfold insV
  rw [hp.pos hm ho (Int.le_refl _) (by omega), hp.eq, List.take_left, List.drop_left]
theorem Parted.sub (hp : Parted l m A B) {k : Mp} (h1 : m.va ≤ k.va) (h2 : k.va + k.n ≤ m.va + m.n) : Parted l k A B :=
  ⟨hp.eq, fun x hx => by have := hp.lo x hx; omega, fun x hx => by have := hp.hi x hx; omega⟩
theorem Parted.free (hp : Parted l m A B) : l.any (meetM m) = false := by
  rw [List.any_eq_false]
  intro x hx
  unfold meetM
  simp only [Bool.and_eq_true, decide_eq_true_eq]
  rw [hp.eq] at hx
  rcases List.mem_append.1 hx with hx | hx
  · have := hp.lo x hx; omega
  · have := hp.hi x hx; omega
theorem Parted.fit (hp : Parted l m A B) (h : FitM l) (hm : OneM m) (hl : l.length < 16) : FitM (A ++ m :: B) := by
  have hd := h.dj
  rw [hp.eq, List.pairwise_append] at hd
  refine ⟨by rw [hp.eq] at hl; simp only [List.length_append, List.length_cons] at hl ⊢; omega, fun x hx => ?_, ?_⟩
  · rcases List.mem_append.1 hx with hx | hx
    · exact h.one x (by rw [hp.eq]; exact List.mem_append_left _ hx)
    · rcases List.mem_cons.1 hx with rfl | hx
      · exact hm
      · exact h.one x (by rw [hp.eq]; exact List.mem_append_right _ hx)
  · rw [List.pairwise_append]
    refine ⟨hd.1, List.pairwise_cons.2 ⟨fun x hx => hp.hi x hx, hd.2.1⟩, fun x hx y hy => ?_⟩
    rcases List.mem_cons.1 hy with rfl | hy
    · exact hp.lo x hx
    · exact hd.2.2 x hx y hy
theorem Parted.find (hp : Parted l m A B) (page : Int) : FM (A ++ m :: B) page = if inM page m = true then some m else FM l page := by
  unfold FM
  rw [hp.eq, List.find?_append, List.find?_append, List.find?_cons]
  by_cases hi : inM page m = true
  · rw [hi, if_pos rfl]
    have : A.find? (inM page) = none := by
      rw [List.find?_eq_none]
      intro x hx
      have := hp.lo x hx
      unfold inM at hi ⊢
      simp only [Bool.and_eq_true, decide_eq_true_eq] at hi ⊢
      omega
    rw [this]; rfl
  · rw [if_neg hi]
    have : inM page m = false := by simpa using hi
    rw [this]
theorem Parted.none (hp : Parted l m A B) {page : Int} (hi : inM page m = true) : FM l page = none := by
  unfold FM
  rw [List.find?_eq_none]
  intro x hx
  unfold inM at hi ⊢
  simp only [Bool.and_eq_true, decide_eq_true_eq] at hi ⊢
  rw [hp.eq] at hx
  rcases List.mem_append.1 hx with hx | hx
  · have := hp.lo x hx; omega
  · have := hp.hi x hx; omega
theorem Parted.drop (hp : Parted l m A B) (hm : 1 ≤ m.n) (ho : ∀ x ∈ l, 1 ≤ x.n) : dropM (A ++ m :: B) m.va = (l, 0) := by
  unfold dropM
  have h1 : ((A ++ m :: B).any fun x => x.va == m.va) = true := by rw [List.any_eq_true]; exact ⟨m, by simp, by simp⟩
  rw [if_pos h1]
  have hA : A.filter (fun x => !(x.va == m.va)) = A := List.filter_eq_self.2 fun x hx => by
    have := hp.lo x hx
    have := ho x (by rw [hp.eq]; exact List.mem_append_left _ hx)
    simp; omega
  have hB : B.filter (fun x => !(x.va == m.va)) = B := List.filter_eq_self.2 fun x hx => by
    have := hp.hi x hx
    simp; omega
  rw [List.filter_append, hA, List.filter_cons, if_neg (by simp), hB, hp.eq]
end
theorem fit_ones {l : List Mp} (h : FitM l) : ∀ x ∈ l, 1 ≤ x.n := fun x hx => (h.one x hx).2.2.2.2.1
theorem drop_fit {l : List Mp} (h : FitM l) (va : Int) : FitM (dropM l va).1 := by
  unfold dropM
  split
  · exact ⟨Nat.le_trans (List.length_filter_le _ _) h.len, fun x hx => h.one x (List.mem_filter.1 hx).1, h.dj.sublist List.filter_sublist⟩
  · exact h
theorem put_fit {l : List Mp} (h : FitM l) (m : Mp) : FitM (putM l m).1 := by
  unfold putM
  split
  · rename_i hm
    have hm' := (mapOne_iff m).1 hm
    split
    · exact h
    · rename_i hn
      have hn' : l.any (meetM m) = false := by simpa using hn
      obtain ⟨A, B, hp⟩ := parted h hm' hn'
      split
      · exact h
      · rw [hp.ins hm'.2.2.2.2.1 (fit_ones h)]
        exact hp.fit h hm' (by omega)
  · exact h
/-- OneM at most. -/
theorem only_one {l : List Mp} (h : FitM l) (page : Int) : (l.filter (inM page)).length = if (FM l page).isSome = true then 1 else 0 := by
  have hd := h.dj
  have ho := fit_ones h
  clear h
  induction l with
  | nil => rfl
  | cons a l ih =>
    rw [List.pairwise_cons] at hd
    have ih := ih hd.2 (fun x hx => ho x (by simp [hx]))
    unfold FM at ih ⊢
    rw [List.filter_cons, List.find?_cons]
    by_cases hi : inM page a = true
    · rw [if_pos hi, hi]
      have : l.filter (inM page) = [] := by
        rw [List.filter_eq_nil_iff]
        intro x hx
        have := hd.1 x hx
        unfold inM at hi ⊢
        simp only [Bool.and_eq_true, decide_eq_true_eq] at hi ⊢
        omega
      rw [this]; rfl
    · rw [if_neg hi]
      have : inM page a = false := by simpa using hi
      rw [this]; exact ih
theorem FM_in {l : List Mp} {page : Int} {x : Mp} (h : FM l page = some x) : x ∈ l ∧ inM page x = true := ⟨List.mem_of_find?_eq_some h, by simpa using List.find?_some h⟩
/-- In parts. -/
theorem parts {l : List Mp} {m : Mp} {k : Int} (h : FitM l) (hm : OneM m) (hn : l.any (meetM m) = false) (hk : 1 ≤ k) (hk' : k < m.n) (hl : l.length ≤ 14) :
    ∃ A B, Parted l m A B ∧ putM l m = (A ++ m :: B, 0) ∧ putM l { m with n := k } = (A ++ { m with n := k } :: B, 0) ∧
      putM (A ++ { m with n := k } :: B) { m with va := m.va + k, off := m.off + k, n := m.n - k } = (A ++ { m with n := k } :: { m with va := m.va + k, off := m.off + k, n := m.n - k } :: B, 0) ∧
      putM l { m with va := m.va + k, off := m.off + k, n := m.n - k } = (A ++ { m with va := m.va + k, off := m.off + k, n := m.n - k } :: B, 0) ∧
      putM (A ++ { m with va := m.va + k, off := m.off + k, n := m.n - k } :: B) { m with n := k } = (A ++ { m with n := k } :: { m with va := m.va + k, off := m.off + k, n := m.n - k } :: B, 0) ∧
      FitM (A ++ { m with n := k } :: B) ∧ FitM (A ++ { m with va := m.va + k, off := m.off + k, n := m.n - k } :: B) ∧ FitM (A ++ { m with n := k } :: { m with va := m.va + k, off := m.off + k, n := m.n - k } :: B) := by
  obtain ⟨A, B, hp⟩ := parted h hm hn
  have hm0 := hm
  unfold OneM at hm
  generalize hf : ({ m with n := k } : Mp) = f
  generalize hs : ({ m with va := m.va + k, off := m.off + k, n := m.n - k } : Mp) = s
  have f1 : f.va = m.va ∧ f.n = k ∧ f.off = m.off := by subst hf; exact ⟨rfl, rfl, rfl⟩
  have s1 : s.va = m.va + k ∧ s.n = m.n - k ∧ s.off = m.off + k := by subst hs; exact ⟨rfl, rfl, rfl⟩
  have fo : OneM f := by unfold OneM; omega
  have so : OneM s := by unfold OneM; omega
  have pf : Parted l f A B := hp.sub (by omega) (by omega)
  have ps : Parted l s A B := hp.sub (by omega) (by omega)
  have hput : ∀ {l A B : List Mp} {x : Mp}, Parted l x A B → OneM x → (∀ y ∈ l, 1 ≤ y.n) → l.length < 16 → putM l x = (A ++ x :: B, 0) := fun {l A B x} p o ho hl => by
    unfold putM
    rw [if_pos ((mapOne_iff x).2 o), if_neg (by rw [p.free]; simp), if_neg (by omega), p.ins o.2.2.2.2.1 ho]
  have of := pf.fit h fo (by omega)
  have os := ps.fit h so (by omega)
  have lA : A.length + B.length ≤ 14 := by have := hl; rw [hp.eq] at this; simpa using this
  have p1 : Parted (A ++ f :: B) s (A ++ [f]) B := ⟨by simp, fun x hx => by
    rcases List.mem_append.1 hx with hx | hx
    · have := hp.lo x hx; omega
    · obtain rfl := List.mem_singleton.1 hx; omega, fun x hx => by have := hp.hi x hx; omega⟩
  have p2 : Parted (A ++ s :: B) f A (s :: B) := ⟨rfl, fun x hx => by have := hp.lo x hx; omega, fun x hx => by
    rcases List.mem_cons.1 hx with rfl | hx
    · omega
    · have := hp.hi x hx; omega⟩
  have e1 := hput p1 so (fit_ones of) (by simp only [List.length_append, List.length_cons]; omega)
  have e2 := hput p2 fo (fit_ones os) (by simp only [List.length_append, List.length_cons]; omega)
  rw [List.append_assoc, List.singleton_append] at e1
  have o2 := p2.fit os fo (by simp only [List.length_append, List.length_cons]; omega)
  exact ⟨A, B, hp, hput hp hm0 (fit_ones h) (by omega), hput pf fo (fit_ones h) (by omega), e1, hput ps so (fit_ones h) (by omega), e2, of, os, o2⟩
theorem parts_find {l A B : List Mp} {m : Mp} {k : Int} (hp : Parted l m A B) (hk : 1 ≤ k) (hk' : k < m.n) (page : Int) :
    FM (A ++ { m with n := k } :: { m with va := m.va + k, off := m.off + k, n := m.n - k } :: B) page = if inM page m = true then (if page < m.va + k then some { m with n := k } else some { m with va := m.va + k, off := m.off + k, n := m.n - k }) else FM l page := by
  have p2 : Parted (A ++ { m with va := m.va + k, off := m.off + k, n := m.n - k } :: B) { m with n := k } A ({ m with va := m.va + k, off := m.off + k, n := m.n - k } :: B) := ⟨rfl, fun x hx => hp.lo x hx, fun x hx => by
    rcases List.mem_cons.1 hx with rfl | hx
    · exact Int.le_refl _
    · have := hp.hi x hx; show m.va + k ≤ x.va; omega⟩
  have ps : Parted l { m with va := m.va + k, off := m.off + k, n := m.n - k } A B := hp.sub (by show m.va ≤ m.va + k; omega) (by show m.va + k + (m.n - k) ≤ m.va + m.n; omega)
  rw [p2.find, ps.find]
  by_cases hi : inM page m = true
  · rw [if_pos hi]
    unfold inM at hi ⊢
    simp only [Bool.and_eq_true, decide_eq_true_eq] at hi ⊢
    by_cases h1 : page < m.va + k
    · rw [if_pos ⟨hi.1, h1⟩, if_pos h1]
    · rw [if_neg (fun h => h1 h.2), if_neg h1, if_pos ⟨by omega, by omega⟩]
  · rw [if_neg hi]
    unfold inM at hi ⊢
    simp only [Bool.and_eq_true, decide_eq_true_eq] at hi ⊢
    rw [if_neg (fun h => hi ⟨h.1, by omega⟩), if_neg (fun h => hi ⟨by omega, by omega⟩)]
/-- The pages that end behind a page: the first of them has it, or none. -/
theorem find_pos {l : List Mp} (h : FitM l) (page : Int) : (match l[posE l (page + 1)]? with
    | some x => if inM page x = true then some x else none
    | none => none) = FM l page := by
  have hd := h.dj
  have ho := fit_ones h
  clear h
  unfold FM posE
  induction l with
  | nil => rfl
  | cons a l ih =>
    rw [List.pairwise_cons] at hd
    have ih := ih hd.2 (fun x hx => ho x (by simp [hx]))
    have ha := ho a (by simp)
    rw [List.takeWhile_cons, List.find?_cons]
    by_cases he : a.va + a.n < page + 1
    · rw [if_pos (decide_eq_true he), List.length_cons, List.getElem?_cons_succ, ih]
      have : inM page a = false := by unfold inM; rw [Bool.and_eq_false_iff]; exact .inr (decide_eq_false (by omega))
      rw [this]
    · rw [if_neg (by simpa using he), List.length_nil, List.getElem?_cons_zero]
      simp only
      by_cases hi : inM page a = true
      · rw [if_pos hi, hi]
      · have hi' : inM page a = false := by simpa using hi
        rw [if_neg hi, hi']
        simp only
        symm
        rw [List.find?_eq_none]
        intro x hx
        have := hd.1 x hx
        unfold inM at hi ⊢
        simp only [Bool.and_eq_true, decide_eq_true_eq] at hi ⊢
        omega
--END
end Go.Proofs.Ytggkjfllbfcagaa
