import Derived.Test.YteibeoipnjhicaaEvm
namespace Go.Proofs.Yteibeoipnjhicaa
open Go Go.RowKit
set_option linter.unusedVariables false
set_option linter.unusedSimpArgs false
section
variable {P : Program} {ops : Array Oper}
def Eff.tgt (m : Nat) : Eff → Option Nat
  | .nop => none
  | .new _ => some m
  | .born _ _ _ => some m
  | .put id _ _ => some id
  | .grow id _ _ _ => some id
def Eff.val : Eff → Option HE → Option HE
  | .nop, y => y
  | .new l, _ => some (.box l)
  | .born e sz els, _ => some (.row e sz els)
  | .put _ off x, y => match y with
    | some (.box l) => some (.box (splice l off x))
    | y => y
  | .grow _ e sz els, _ => some (.row e sz els)
theorem app_eq (e : Eff) (m : Nat) (X : Heap) : e.app m X = fun i => if e.tgt m = some i then e.val (X i) else X i := by
  funext i
  cases e with
  | nop => simp [Eff.app, Eff.tgt]
  | new l => simp only [Eff.app, Eff.tgt, Eff.val, hset, Option.some.injEq]; by_cases h : i = m
             · simp [h]
             · rw [if_neg h, if_neg (Ne.symm h)]
  | born e' sz els => simp only [Eff.app, Eff.tgt, Eff.val, hset, Option.some.injEq]; by_cases h : i = m
                      · simp [h]
                      · rw [if_neg h, if_neg (Ne.symm h)]
  | grow id e' sz els => simp only [Eff.app, Eff.tgt, Eff.val, hset, Option.some.injEq]; by_cases h : i = id
                         · simp [h]
                         · rw [if_neg h, if_neg (Ne.symm h)]
  | put id off x =>
    simp only [Eff.app, Eff.tgt, Eff.val, Option.some.injEq]
    cases hid : X id with
    | none =>
      by_cases h : i = id
      · subst h; simp [hid]
      · rw [if_neg (Ne.symm h)]
    | some y =>
      cases y with
      | row _ _ _ =>
        by_cases h : i = id
        · subst h; simp [hid]
        · rw [if_neg (Ne.symm h)]
      | box l =>
        simp only [hset]
        by_cases h : i = id
        · subst h; simp [hid]
        · rw [if_neg h, if_neg (Ne.symm h)]
theorem app_other {e : Eff} {m : Nat} {X : Heap} {i : Nat} (h : e.tgt m ≠ some i) : e.app m X i = X i := by rw [app_eq]; simp [h]
theorem app_same {e : Eff} {m : Nat} {X : Heap} {i : Nat} (h : e.tgt m = some i) : e.app m X i = e.val (X i) := by rw [app_eq]; simp [h]
theorem comm_ne {e1 e2 : Eff} {m1 m2 : Nat} {X : Heap} (h : ∀ i, e1.tgt m1 = some i → e2.tgt m2 ≠ some i) : e2.app m2 (e1.app m1 X) = e1.app m1 (e2.app m2 X) := by
  funext i
  by_cases h1 : e1.tgt m1 = some i
  · rw [app_other (h i h1), app_same h1, app_same h1, app_other (h i h1)]
  · rw [app_other (e := e1) h1]
    by_cases h2 : e2.tgt m2 = some i
    · rw [app_same h2, app_same h2, app_other h1]
    · rw [app_other h2, app_other h2, app_other h1]
theorem splice_comm {α : Type} {l x y : List α} {a b : Nat} (ha : a + x.length ≤ l.length) (hb : b + y.length ≤ l.length) (h : x.length = 0 ∨ y.length = 0 ∨ a + x.length ≤ b ∨ b + y.length ≤ a) : splice (splice l a x) b y = splice (splice l b y) a x := by
  apply List.ext_getElem?
  intro i
  rw [splice_get (splice l a x) b y (by rw [splice_len _ _ _ ha]; exact hb), splice_get l a x ha, splice_get (splice l b y) a x (by rw [splice_len _ _ _ hb]; exact ha), splice_get l b y hb]
  by_cases h1 : b ≤ i ∧ i < b + y.length <;> by_cases h2 : a ≤ i ∧ i < a + x.length
  · omega
  · rw [if_pos h1, if_neg h2, if_pos h1]
  · rw [if_neg h1, if_pos h2, if_pos h2]
  · rw [if_neg h1, if_neg h2, if_neg h2, if_neg h1]
theorem splice_range {α : Type} {l x : List α} {a lo hi : Nat} (ha : a + x.length ≤ l.length) (h : x.length = 0 ∨ hi ≤ lo ∨ hi ≤ a ∨ a + x.length ≤ lo) : ((splice l a x).drop lo).take (hi - lo) = (l.drop lo).take (hi - lo) := by
  apply List.ext_getElem?
  intro i
  rw [List.getElem?_take, List.getElem?_take]
  split
  · rw [List.getElem?_drop, List.getElem?_drop, splice_get _ _ _ ha, if_neg (by omega)]
  · rfl
variable {R : Run P ops} {m0 : Nat}
theorem ph_free (h : RunOk R m0) (D : Nat → Bool) {k : Nat} (hk : k ≤ ops.size) (i : Nat) (hi : R.mm k ≤ i) : ph R D k i = none := by
  cases hp : ph R D k i with
  | none => rfl
  | some y =>
    have hr := ph_rel h D hk
    have hn := hn_free h hk i hi
    cases y with
    | box l => obtain ⟨l', h1, _⟩ := hr.box i l hp; rw [hn] at h1; cases h1
    | row e sz els => obtain ⟨l', h1⟩ := hr.row i e sz els hp; rw [hn] at h1; cases h1
theorem tgt_lt (h : RunOk R m0) {k : Nat} (hk : k < ops.size) {i : Nat} (ht : (R.e k).tgt (R.mm k) = some i) (hc : (R.e k).cnt = 0) : i < R.mm k := by
  cases he : R.e k with
  | nop => rw [he] at ht; cases ht
  | new l => rw [he] at hc; simp [Eff.cnt] at hc
  | born _ _ _ => rw [he] at hc; simp [Eff.cnt] at hc
  | put id off l =>
    rw [he] at ht; cases ht
    obtain ⟨c, h1, _⟩ := e_put h hk he
    exact Nat.lt_of_not_le fun hle => by rw [hn_free h (by omega) _ hle] at h1; cases h1
  | grow id e' sz els =>
    rw [he] at ht; cases ht
    obtain ⟨c, h1⟩ := e_grow h hk he
    exact Nat.lt_of_not_le fun hle => by rw [hn_free h (by omega) _ hle] at h1; cases h1
theorem tgt_new {e : Eff} {m i : Nat} (hc : e.cnt ≠ 0) : e.tgt m = some i ↔ i = m := by
  cases e with
  | new l => simp [Eff.tgt, eq_comm]
  | born _ _ _ => simp [Eff.tgt, eq_comm]
  | _ => simp [Eff.cnt] at hc
/-- Two parts of the region leave the same where nothing is written. -/
theorem ph_same (h : RunOk R m0) (D1 D2 : Nat → Bool) (id : Nat) (hno : ∀ k, k < ops.size → (D1 k = true ∨ D2 k = true) → (R.e k).cnt = 0 → (R.e k).tgt (R.mm k) ≠ some id) :
    ∀ {k : Nat}, k ≤ ops.size → ph R D1 k id ≠ none → ph R D2 k id ≠ none → ph R D1 k id = ph R D2 k id
  | 0, _, _, _ => rfl
  | k + 1, hk, h1, h2 => by
    have ih := ph_same h D1 D2 id hno (k := k) (by omega)
    have fresh : ∀ D, ph R D k id ≠ none → id ≠ R.mm k := fun D hd e => hd (ph_free h D (by omega) id (by omega))
    simp only [ph] at h1 h2 ⊢
    by_cases d1 : D1 k = true <;> by_cases d2 : D2 k = true <;> simp only [d1, d2, if_true, if_false, Bool.false_eq_true] at h1 h2 ⊢
    · by_cases ht : (R.e k).tgt (R.mm k) = some id
      · have hc : (R.e k).cnt ≠ 0 := fun hc => hno k (by omega) (.inl d1) hc ht
        rw [app_same ht, app_same ht]
        cases he : R.e k <;> simp_all [Eff.cnt, Eff.val]
      · rw [app_other ht] at h1 h2 ⊢; rw [app_other ht]; exact ih h1 h2
    · by_cases ht : (R.e k).tgt (R.mm k) = some id
      · have hc : (R.e k).cnt ≠ 0 := fun hc => hno k (by omega) (.inl d1) hc ht
        exact absurd ((tgt_new hc).1 ht) (fresh D2 h2)
      · rw [app_other ht] at h1 ⊢; exact ih h1 h2
    · by_cases ht : (R.e k).tgt (R.mm k) = some id
      · have hc : (R.e k).cnt ≠ 0 := fun hc => hno k (by omega) (.inr d2) hc ht
        exact absurd ((tgt_new hc).1 ht) (fresh D1 h1)
      · rw [app_other ht] at h2 ⊢; exact ih h1 h2
    · exact ih h1 h2
/-- .. and where other cells of the box are written. -/
theorem ph_range (h : RunOk R m0) (D1 D2 : Nat → Bool) (id lo hi : Nat) (hno : ∀ k, k < ops.size → (D1 k = true ∨ D2 k = true) → ∀ g ∈ (R.e k).wr, g.meets ⟨id, lo, hi, false⟩ = false) :
    ∀ {k : Nat}, k ≤ ops.size → ∀ l1 l2, ph R D1 k id = some (.box l1) → ph R D2 k id = some (.box l2) → l1.length = l2.length ∧ (l1.drop lo).take (hi - lo) = (l2.drop lo).take (hi - lo)
  | 0, _, l1, l2, h1, h2 => by simp only [ph] at h1 h2; rw [h1] at h2; cases h2; exact ⟨rfl, rfl⟩
  | k + 1, hk, l1, l2, h1, h2 => by
    have ih := ph_range h D1 D2 id lo hi hno (k := k) (by omega)
    have fresh : ∀ D y, ph R D k id = some y → id ≠ R.mm k := fun D y hd e => by rw [ph_free h D (by omega) id (by omega)] at hd; cases hd
    -- an effect on a box that is there
    have one : ∀ (D : Nat → Bool) (l : List PV), (D1 k = true ∨ D2 k = true) → (R.e k).app (R.mm k) (ph R D k) id = some (.box l) → ((R.e k).cnt ≠ 0 ∧ id = R.mm k ∧ (R.e k).val none = some (.box l)) ∨ ∃ c, ph R D k id = some (.box c) ∧ c.length = l.length ∧ (c.drop lo).take (hi - lo) = (l.drop lo).take (hi - lo) := by
      intro D l hor hl
      by_cases ht : (R.e k).tgt (R.mm k) = some id
      · rw [app_same ht] at hl
        cases he : R.e k with
        | nop => rw [he] at ht; cases ht
        | new x => rw [he] at ht hl; cases ht; exact .inl ⟨by simp [Eff.cnt], rfl, by simpa [Eff.val] using hl⟩
        | born e' sz els => rw [he] at hl; simp [Eff.val] at hl
        | grow i e' sz els => rw [he] at hl; simp [Eff.val] at hl
        | put i off x =>
          rw [he] at ht hl; cases ht
          have hm := hno k (by omega) hor ⟨id, off, off + x.length, false⟩ (by rw [he]; simp [Eff.wr])
          simp [Rg.meets] at hm
          cases hp : ph R D k id with
          | none => rw [hp] at hl; simp [Eff.val] at hl
          | some y =>
            rw [hp] at hl
            cases y with
            | row _ _ _ => simp [Eff.val] at hl
            | box c =>
              simp only [Eff.val, Option.some.injEq, HE.box.injEq] at hl
              subst hl
              obtain ⟨c', h3, h4⟩ := e_put h (by omega) he
              obtain ⟨l', h5, h6⟩ := (ph_rel h D (k := k) (by omega)).box id c hp
              rw [h3] at h5; cases h5
              exact .inr ⟨c, rfl, (splice_len _ _ _ (by omega)).symm, (splice_range (by omega) (by omega)).symm⟩
      · rw [app_other ht] at hl; exact .inr ⟨l, hl, rfl, rfl⟩
    simp only [ph] at h1 h2
    by_cases d1 : D1 k = true <;> by_cases d2 : D2 k = true <;> simp only [d1, d2, if_true, if_false, Bool.false_eq_true] at h1 h2
    · rcases one D1 l1 (.inl d1) h1 with ⟨a1, a2, a3⟩ | ⟨c1, a1, a2, a3⟩ <;> rcases one D2 l2 (.inl d1) h2 with ⟨b1, b2, b3⟩ | ⟨c2, b1, b2, b3⟩
      · rw [a3] at b3; cases b3; exact ⟨rfl, rfl⟩
      · exact absurd a2 (fresh D2 _ b1)
      · exact absurd b2 (fresh D1 _ a1)
      · obtain ⟨g1, g2⟩ := ih c1 c2 a1 b1
        exact ⟨by omega, by rw [← a3, ← b3]; exact g2⟩
    · rcases one D1 l1 (.inl d1) h1 with ⟨a1, a2, a3⟩ | ⟨c1, a1, a2, a3⟩
      · exact absurd a2 (fresh D2 _ h2)
      · obtain ⟨g1, g2⟩ := ih c1 l2 a1 h2
        exact ⟨by omega, by rw [← a3]; exact g2⟩
    · rcases one D2 l2 (.inr d2) h2 with ⟨b1, b2, b3⟩ | ⟨c2, b1, b2, b3⟩
      · exact absurd b2 (fresh D1 _ h1)
      · obtain ⟨g1, g2⟩ := ih l1 c2 h1 b1
        exact ⟨by omega, by rw [← b3]; exact g2⟩
    · exact ih l1 l2 h1 h2
theorem ph_agree (R : Run P ops) {D1 D2 : Nat → Bool} : ∀ {k : Nat}, (∀ i, i < k → D1 i = D2 i) → ph R D1 k = ph R D2 k
  | 0, _ => rfl
  | k + 1, h => by simp only [ph]; rw [h k (by omega), ph_agree R (k := k) (fun i hi => h i (by omega))]
theorem pe_agree (R : Run P ops) {D1 D2 : Nat → Bool} : ∀ {k : Nat}, (∀ i, i < k → D1 i = D2 i) → pe R D1 k = pe R D2 k
  | 0, _ => rfl
  | k + 1, h => by simp only [pe]; rw [h k (by omega), pe_agree R (k := k) (fun i hi => h i (by omega))]
def before (j : Nat) : Nat → Bool := fun i => decide (i < j)
theorem hn_ph (h : RunOk R m0) (j : Nat) : ∀ {k : Nat}, k ≤ ops.size → ph R (before j) k = R.hn (min k j)
  | 0, _ => by rw [Nat.zero_min]; rfl
  | k + 1, hk => by
    simp only [ph, hn_ph h j (k := k) (by omega)]
    by_cases hkj : k < j
    · rw [if_pos (by simp [before, hkj]), Nat.min_eq_left (by omega), Nat.min_eq_left (by omega)]
      exact (hn_succ h (by omega)).1.symm
    · rw [if_neg (by simp [before, hkj]), Nat.min_eq_right (by omega), Nat.min_eq_right (by omega)]
theorem en_pe (h : RunOk R m0) (j : Nat) : ∀ {k : Nat}, k ≤ ops.size → pe R (before j) k = R.en (min k j)
  | 0, _ => by rw [Nat.zero_min]; rfl
  | k + 1, hk => by
    simp only [pe, en_pe h j (k := k) (by omega)]
    by_cases hkj : k < j
    · rw [if_pos (by simp [before, hkj]), Nat.min_eq_left (by omega), Nat.min_eq_left (by omega)]
      obtain ⟨o, ho, h1, _⟩ := good_at h (k := k) (by omega)
      rw [h1]; simp [dstAt, ho]
    · rw [if_neg (by simp [before, hkj]), Nat.min_eq_right (by omega), Nat.min_eq_right (by omega)]
theorem pe_get (R : Run P ops) (D1 D2 : Nat → Bool) (t : Tmp) : ∀ {k : Nat}, (∀ i, i < k → dstAt ops i = some t → D1 i = D2 i) → pe R D1 k t = pe R D2 k t
  | 0, _ => rfl
  | k + 1, h => by
    have ih := pe_get R D1 D2 t (k := k) (fun i hi => h i (by omega))
    simp only [pe]
    by_cases hd : dstAt ops k = some t
    · rw [h k (by omega) hd]
      split
      · rw [upd_get, upd_get, if_pos hd, if_pos hd]
      · exact ih
    · have e : ∀ E : Env, upd E (dstAt ops k) (R.r k) t = E t := fun E => by rw [upd_get, if_neg hd]
      split <;> split <;> (try rw [e]) <;> (try rw [e]) <;> exact ih
def withJ (D : Nat → Bool) (j : Nat) : Nat → Bool := fun i => if i = j then true else D i
theorem pe_insert (R : Run P ops) (D : Nat → Bool) {j : Nat} (hD : D j = false) (hd : ∀ i d, i ≠ j → i < ops.size → dstAt ops j = some d → dstAt ops i ≠ some d) : ∀ {k : Nat}, j < k → k ≤ ops.size → pe R (withJ D j) k = upd (pe R D k) (dstAt ops j) (R.r j)
  | 0, h, _ => by omega
  | k + 1, hjk, hk => by
    simp only [pe]
    by_cases e : k = j
    · subst e
      rw [if_pos (by simp [withJ]), if_neg (by simp [hD]), pe_agree R (D1 := withJ D k) (D2 := D) (fun i hi => by simp [withJ, show i ≠ k by omega])]
    · rw [pe_insert R D hD hd (k := k) (by omega) (by omega), show withJ D j k = D k by simp [withJ, e]]
      split
      · funext t
        rw [upd_get, upd_get, upd_get, upd_get]
        by_cases h1 : dstAt ops k = some t
        · rw [if_pos h1, if_neg (fun h2 => hd k t e (by omega) h2 h1), if_pos h1]
        · rw [if_neg h1, if_neg h1]
      · rfl
theorem ph_insert (h : RunOk R m0) (D : Nat → Bool) {j : Nat} (hj : j < ops.size) (hD : D j = false) (hcl : ∀ k, j < k → k < ops.size → D k = true → (R.e k).cnt = 0 → (R.e j).cnt ≠ 0 → (R.e k).tgt (R.mm k) ≠ some (R.mm j)) :
    ∀ {k : Nat}, j < k → k ≤ ops.size → ph R (withJ D j) k = (R.e j).app (R.mm j) (ph R D k)
  | 0, hjk, _ => by omega
  | k + 1, hjk, hk => by
    simp only [ph]
    by_cases e : k = j
    · subst e
      rw [if_pos (by simp [withJ]), if_neg (by simp [hD]), ph_agree R (D1 := withJ D k) (D2 := D) (fun i hi => by simp [withJ, show i ≠ k by omega])]
    · rw [ph_insert h D hj hD hcl (k := k) (by omega) (by omega), show withJ D j k = D k by simp [withJ, e]]
      by_cases hk1 : D k = true
      · rw [if_pos hk1, if_pos hk1]
        have hjk' : j < k := by omega
        have hok := h.pair j k hjk' (by omega)
        simp only [okPair, Bool.and_eq_true] at hok
        obtain ⟨hww, _⟩ := hok
        by_cases hne : ∀ i, (R.e j).tgt (R.mm j) = some i → (R.e k).tgt (R.mm k) ≠ some i
        · exact comm_ne hne
        · -- one target
          obtain ⟨i, hi⟩ : ∃ i, ¬ ((R.e j).tgt (R.mm j) = some i → (R.e k).tgt (R.mm k) ≠ some i) := Classical.not_forall.1 hne
          obtain ⟨t1, t2⟩ : (R.e j).tgt (R.mm j) = some i ∧ (R.e k).tgt (R.mm k) = some i := ⟨Classical.byContradiction fun hc => hi fun hq => absurd hq hc, Classical.byContradiction fun hc => hi fun _ => hc⟩
          have hmm : R.mm (j + 1) ≤ R.mm k := mm_mono h (by omega) (by omega)
          rw [(hn_succ h hj).2] at hmm
          have c1 : (R.e j).cnt = 0 := Classical.byContradiction fun hc => by
            have e1 := (tgt_new hc).1 t1
            by_cases c2 : (R.e k).cnt = 0
            · exact hcl k hjk' (by omega) hk1 c2 hc (by rw [t2, e1])
            · have e2 := (tgt_new c2).1 t2
              have : (R.e j).cnt = 1 := by cases hq : R.e j <;> simp_all [Eff.cnt]
              omega
          have c2 : (R.e k).cnt = 0 := Classical.byContradiction fun hc => by
            have e2 := (tgt_new hc).1 t2
            have := tgt_lt h hj t1 c1
            omega
          cases e1 : R.e j with
          | nop => rw [e1] at t1; cases t1
          | new _ => rw [e1] at c1; simp [Eff.cnt] at c1
          | born _ _ _ => rw [e1] at c1; simp [Eff.cnt] at c1
          | grow i1 _ _ _ =>
            exfalso
            rw [e1] at t1 hww; cases t1
            cases e2 : R.e k with
            | nop => rw [e2] at t2; cases t2
            | new _ => rw [e2] at c2; simp [Eff.cnt] at c2
            | born _ _ _ => rw [e2] at c2; simp [Eff.cnt] at c2
            | grow _ _ _ _ => rw [e2] at t2 hww; cases t2; simp [apartL, Eff.wr, Rg.meets] at hww
            | put _ _ _ => rw [e2] at t2 hww; cases t2; simp [apartL, Eff.wr, Rg.meets] at hww
          | put i1 off1 x1 =>
            rw [e1] at t1 hww; cases t1
            cases e2 : R.e k with
            | nop => rw [e2] at t2; cases t2
            | new _ => rw [e2] at c2; simp [Eff.cnt] at c2
            | born _ _ _ => rw [e2] at c2; simp [Eff.cnt] at c2
            | grow _ _ _ _ => exfalso; rw [e2] at t2 hww; cases t2; simp [apartL, Eff.wr, Rg.meets] at hww
            | put i2 off2 x2 =>
              rw [e2] at t2 hww; cases t2
              simp [apartL, Eff.wr, Rg.meets] at hww
              funext q
              by_cases hq : q = i
              · subst hq
                have T1 : (Eff.put q off1 x1).tgt (R.mm j) = some q := rfl
                have T2 : (Eff.put q off2 x2).tgt (R.mm k) = some q := rfl
                rw [app_same T2, app_same T1, app_same T1, app_same T2]
                cases hp : ph R D k q with
                | none => rfl
                | some y =>
                  cases y with
                  | row _ _ _ => rfl
                  | box c =>
                    simp only [Eff.val, Option.some.injEq, HE.box.injEq]
                    obtain ⟨l', h5, h6⟩ := (ph_rel h D (k := k) (by omega)).box q c hp
                    obtain ⟨a1, h1, h2⟩ := e_put h hj e1
                    obtain ⟨a2, h3, h4⟩ := e_put h (k := k) (by omega) e2
                    rw [h5] at h3; cases h3
                    have hlen : a1.length = l'.length := by
                      have key : ∀ n, j ≤ n → n ≤ k → ∃ a, R.hn n q = some (.box a) ∧ a.length = a1.length := by
                        intro n
                        induction n with
                        | zero => intro hn _; have : j = 0 := by omega
                                  subst this; exact ⟨a1, h1, rfl⟩
                        | succ n ih =>
                          intro hn1 hn2
                          rcases Nat.lt_or_ge n j with hlt | hge
                          · have : j = n + 1 := by omega
                            subst this; exact ⟨a1, h1, rfl⟩
                          · obtain ⟨a, g1, g2⟩ := ih hge (by omega)
                            obtain ⟨b, g3, g4⟩ := (hn_rel_succ h (k := n) (by omega)).box q a g1
                            exact ⟨b, g3, g4.trans g2⟩
                      obtain ⟨a, g1, g2⟩ := key k (by omega) (Nat.le_refl _)
                      rw [h5] at g1; cases g1; exact g2.symm
                    exact splice_comm (by omega) (by omega) (by omega)
              · have T1 : (Eff.put i off1 x1).tgt (R.mm j) ≠ some q := by simp [Eff.tgt, Ne.symm hq]
                have T2 : (Eff.put i off2 x2).tgt (R.mm k) ≠ some q := by simp [Eff.tgt, Ne.symm hq]
                rw [app_other T2, app_other T1, app_other T1, app_other T2]
      · rw [if_neg hk1, if_neg hk1]
end
end Go.Proofs.Yteibeoipnjhicaa
