import Derived.Test.YteibeoipnjhicaaEvl
namespace Go.Proofs.Yteibeoipnjhicaa
open Go Go.RowKit
set_option linter.unusedVariables false
set_option linter.unusedSimpArgs false
/-! What is done of a region: some of its operations, in the order of the text. -/
section
variable {P : Program} {ops : Array Oper}
theorem evOp_put {ρ : Operand → PV} {s : PV → PV} {H : Heap} {m : Nat} {op : Op} {r : PV} {id off : Nat} {l : List PV} (he : evOp P ρ s H m op = some (r, .put id off l)) : ∃ c, H id = some (.box c) ∧ off + l.length ≤ c.length ∧ ∃ a x t, op = .store t a x ∧ ρ a = .ptr id off := by
  cases op
  case store t a x =>
    simp only [evOp] at he
    split at he
    · rename_i id' off' ha
      split at he
      · split at he
        · rename_i c hid
          split at he
          · rename_i hc
            simp only [Option.some.injEq, Prod.mk.injEq, Eff.put.injEq] at he
            obtain ⟨_, rfl, rfl, rfl⟩ := he
            exact ⟨c, hid, hc.2.2, a, x, t, rfl, ha⟩
          · cases he
        · cases he
      · cases he
    · cases he
  case call c =>
    exfalso
    simp only [evOp] at he
    split at he <;> (try (simp at he; done))
    · repeat' (split at he)
      all_goals (first | (simp at he; done) | cases he)
    · split at he <;> (try (simp at he; done))
      unfold evAppend at he
      repeat' (split at he)
      all_goals (first | (simp at he; done) | cases he)
  case slice t x lo hi mx => exfalso; cases mx <;> (simp only [evOp] at he; first | (simp at he; done) | cases he)
  case typeAssert x xt t ok => exfalso; cases ok <;> (simp only [evOp] at he; (repeat' (split at he)) <;> first | (simp at he; done) | cases he)
  all_goals (exfalso; first | (simp only [evOp] at he; done) | (simp only [evOp] at he; repeat' (split at he)))
  all_goals (first | (simp at he; done) | cases he)
theorem evOp_growth {ρ : Operand → PV} {s : PV → PV} {H : Heap} {m : Nat} {op : Op} {r : PV} {id e' sz : Nat} {els' : List (List PV)} (he : evOp P ρ s H m op = some (r, .grow id e' sz els')) : ∃ els, H id = some (.row e' sz els) := by
  cases op
  case call c =>
    simp only [evOp] at he
    split at he <;> (try (simp at he; done))
    · exfalso
      repeat' (split at he)
      all_goals (first | (simp at he; done) | cases he)
    · split at he <;> (try (simp at he; done))
      unfold evAppend at he
      split at he <;> (try (simp at he; done))
      split at he <;> (try (simp at he; done))
      split at he <;> (try (simp at he; done))
      split at he <;> (try (simp at he; done))
      split at he <;> (try (simp at he; done))
      split at he <;> (try (simp at he; done))
      · exfalso
        repeat' (split at he)
        all_goals (first | (simp at he; done) | cases he)
      · split at he <;> (try (simp at he; done))
        rename_i hid
        split at he <;> (try (simp at he; done))
        rename_i hc
        split at he <;> (try (simp at he; done))
        split at he <;> (try (simp at he; done))
        simp only [Option.some.injEq, Prod.mk.injEq, Eff.grow.injEq] at he
        obtain ⟨_, rfl, rfl, rfl, _⟩ := he
        exact ⟨_, by rw [hid, hc.2.1, hc.2.2]⟩
  case slice t x lo hi mx => exfalso; cases mx <;> (simp only [evOp] at he; first | (simp at he; done) | cases he)
  case typeAssert x xt t ok => exfalso; cases ok <;> (simp only [evOp] at he; (repeat' (split at he)) <;> first | (simp at he; done) | cases he)
  all_goals (exfalso; first | (simp only [evOp] at he; done) | (simp only [evOp] at he; repeat' (split at he)))
  all_goals (first | (simp at he; done) | cases he)
def dstAt (ops : Array Oper) (k : Nat) : Option Tmp := (ops[k]?).bind (·.dst)
def pe (R : Run P ops) (D : Nat → Bool) : Nat → Env
  | 0 => R.en 0
  | k + 1 => if D k then upd (pe R D k) (dstAt ops k) (R.r k) else pe R D k
def ph (R : Run P ops) (D : Nat → Bool) : Nat → Heap
  | 0 => R.hn 0
  | k + 1 => if D k then (R.e k).app (R.mm k) (ph R D k) else ph R D k
structure RunOk (R : Run P ops) (m0 : Nat) : Prop where
  good : ∀ i o, ops[i]? = some o → R.good i o
  pair : ∀ i j, i < j → j < ops.size → okPair (R.e i, R.rd i) (R.e j, R.rd j) = true
  base : ∀ i, R.mm 0 ≤ i → R.hn 0 i = none
  le : m0 ≤ R.mm 0
variable {R : Run P ops} {m0 : Nat}
theorem good_at (h : RunOk R m0) {k : Nat} (hk : k < ops.size) : ∃ o, ops[k]? = some o ∧ R.good k o := ⟨_, Array.getElem?_eq_getElem hk, h.good k _ (Array.getElem?_eq_getElem hk)⟩
theorem hn_succ (h : RunOk R m0) {k : Nat} (hk : k < ops.size) : R.hn (k + 1) = (R.e k).app (R.mm k) (R.hn k) ∧ R.mm (k + 1) = R.mm k + (R.e k).cnt := by
  obtain ⟨o, _, h1, h2, h3, _⟩ := good_at h hk; exact ⟨h2, h3⟩
theorem mm_mono (h : RunOk R m0) : ∀ {j k : Nat}, j ≤ k → k ≤ ops.size → R.mm j ≤ R.mm k := by
  intro j k hjk hk
  induction k with
  | zero => have : j = 0 := by omega
            subst this; exact Nat.le_refl _
  | succ k ih =>
    rcases Nat.lt_or_ge j (k + 1) with hlt | hge
    · have := ih (by omega) (by omega)
      rw [(hn_succ h (by omega)).2]; omega
    · have : j = k + 1 := by omega
      subst this; exact Nat.le_refl _
theorem e_put (h : RunOk R m0) {k : Nat} (hk : k < ops.size) {id off : Nat} {l : List PV} (he : R.e k = .put id off l) : ∃ c, R.hn k id = some (.box c) ∧ off + l.length ≤ c.length := by
  obtain ⟨o, ho, _, _, _, hg⟩ := good_at h hk
  rcases hg with ⟨_, _, hg⟩ | ⟨_, ⟨g, args, _, _, _, ⟨_, hg⟩ | ⟨rf, hg, _⟩⟩ | ⟨_, hg, _⟩ | ⟨_, n1, e1, z1, fl1, _, _, hg⟩⟩
  · rw [hg] at he; cases he
  · rw [hg] at he; cases he
  · have := hg.1; rw [he] at this; simp [Eff.cnt] at this
  · rw [he] at hg; obtain ⟨c, h1, h2, _⟩ := evOp_put hg; exact ⟨c, h1, h2⟩
  · rw [hg] at he; cases he
theorem e_grow (h : RunOk R m0) {k : Nat} (hk : k < ops.size) {id e' sz : Nat} {els : List (List PV)} (he : R.e k = .grow id e' sz els) : ∃ els0, R.hn k id = some (.row e' sz els0) := by
  obtain ⟨o, ho, _, _, _, hg⟩ := good_at h hk
  rcases hg with ⟨_, _, hg⟩ | ⟨_, ⟨g, args, _, _, _, ⟨_, hg⟩ | ⟨rf, hg, _⟩⟩ | ⟨_, hg, _⟩ | ⟨_, n1, e1, z1, fl1, _, _, hg⟩⟩
  · rw [hg] at he; cases he
  · rw [hg] at he; cases he
  · have := hg.1; rw [he] at this; simp [Eff.cnt] at this
  · rw [he] at hg; exact evOp_growth hg
  · rw [hg] at he; cases he
theorem hn_free (h : RunOk R m0) : ∀ {k : Nat}, k ≤ ops.size → ∀ i, R.mm k ≤ i → R.hn k i = none
  | 0, _, i, hi => h.base i hi
  | k + 1, hk, i, hi => by
    obtain ⟨h1, h2⟩ := hn_succ h (k := k) (by omega)
    rw [h1]; rw [h2] at hi
    refine app_none (hn_free h (by omega)) _ (fun id e' sz els he => ?_) i hi
    obtain ⟨els0, h0⟩ := e_grow h (by omega) he
    rw [h0]; simp
/-- What an effect leaves of a box or a row that it does not make. -/
theorem app_box {e : Eff} {m : Nat} {H : Heap} (hf : ∀ id off l c, e = .put id off l → H id = some (.box c) → off + l.length ≤ c.length) (hg : ∀ id e' sz els, e = .grow id e' sz els → ∃ els0, H id = some (.row e' sz els0)) {id : Nat} (hid : id ≠ m ∨ e.cnt = 0) :
    (∀ l, H id = some (.box l) → ∃ l', e.app m H id = some (.box l') ∧ l'.length = l.length) ∧ (∀ e' sz els, H id = some (.row e' sz els) → ∃ els', e.app m H id = some (.row e' sz els')) ∧ (H id = none → e.app m H id = none) := by
  cases e with
  | nop => exact ⟨fun l hl => ⟨l, hl, rfl⟩, fun e' sz els hl => ⟨els, hl⟩, fun h => h⟩
  | new x =>
    have hne : id ≠ m := by rcases hid with h | h; exact h; simp [Eff.cnt] at h
    simp only [Eff.app]; rw [hset_ne _ _ hne]
    exact ⟨fun l hl => ⟨l, hl, rfl⟩, fun e' sz els hl => ⟨els, hl⟩, fun h => h⟩
  | born e' sz x =>
    have hne : id ≠ m := by rcases hid with h | h; exact h; simp [Eff.cnt] at h
    simp only [Eff.app]; rw [hset_ne _ _ hne]
    exact ⟨fun l hl => ⟨l, hl, rfl⟩, fun e' sz els hl => ⟨els, hl⟩, fun h => h⟩
  | put i off x =>
    simp only [Eff.app]
    cases hi : H i with
    | none => exact ⟨fun l hl => ⟨l, hl, rfl⟩, fun e' sz els hl => ⟨els, hl⟩, fun h => h⟩
    | some y =>
      cases y with
      | row _ _ _ => exact ⟨fun l hl => ⟨l, hl, rfl⟩, fun e' sz els hl => ⟨els, hl⟩, fun h => h⟩
      | box c =>
        simp only
        by_cases e : id = i
        · subst e
          rw [hset_same]
          refine ⟨?_, ?_, ?_⟩
          · intro l hl
            rw [hi] at hl; cases hl
            exact ⟨_, rfl, splice_len _ _ _ (hf _ _ _ _ rfl hi)⟩
          · intro e' sz els hl; rw [hi] at hl; cases hl
          · intro h; rw [hi] at h; cases h
        · rw [hset_ne _ _ e]
          exact ⟨fun l hl => ⟨l, hl, rfl⟩, fun e' sz els hl => ⟨els, hl⟩, fun h => h⟩
  | grow i e' sz x =>
    simp only [Eff.app]
    obtain ⟨els0, h0⟩ := hg i e' sz x rfl
    by_cases e : id = i
    · subst e
      rw [hset_same]
      refine ⟨?_, ?_, ?_⟩
      · intro l hl; rw [h0] at hl; cases hl
      · intro e2 sz2 els hl; rw [h0] at hl; cases hl; exact ⟨x, rfl⟩
      · intro h; rw [h0] at h; cases h
    · rw [hset_ne _ _ e]
      exact ⟨fun l hl => ⟨l, hl, rfl⟩, fun e' sz els hl => ⟨els, hl⟩, fun h => h⟩
/-- What is there of what is done is there in the textual run, in the same shape. -/
structure Rel (H H' : Heap) : Prop where
  box : ∀ id l, H id = some (.box l) → ∃ l', H' id = some (.box l') ∧ l'.length = l.length
  row : ∀ id e sz els, H id = some (.row e sz els) → ∃ els', H' id = some (.row e sz els')
theorem hn_rel_succ (h : RunOk R m0) {k : Nat} (hk : k < ops.size) : Rel (R.hn k) (R.hn (k + 1)) := by
  obtain ⟨h1, h2⟩ := hn_succ h hk
  have key : ∀ id, R.hn k id ≠ none → _ := fun id hid => app_box (e := R.e k) (m := R.mm k) (H := R.hn k) (fun id off l c he hc => by obtain ⟨c', h3, h4⟩ := e_put h hk he; rw [hc] at h3; cases h3; exact h4) (fun id e' sz els he => e_grow h hk he) (id := id)
    (.inl fun e => hid (by rw [e]; exact hn_free h (by omega) _ (Nat.le_refl _)))
  exact ⟨fun id l hl => by rw [h1]; exact (key id (by rw [hl]; simp)).1 l hl, fun id e sz els hl => by rw [h1]; exact (key id (by rw [hl]; simp)).2.1 e sz els hl⟩
theorem Rel.trans {A B C : Heap} (h : Rel A B) (k : Rel B C) : Rel A C := by
  refine ⟨fun id l hl => ?_, fun id e sz els hl => ?_⟩
  · obtain ⟨l1, h1, h2⟩ := h.box id l hl; obtain ⟨l2, h3, h4⟩ := k.box id l1 h1; exact ⟨l2, h3, h4.trans h2⟩
  · obtain ⟨l1, h1⟩ := h.row id e sz els hl; exact k.row id e sz l1 h1
theorem ph_rel (h : RunOk R m0) (D : Nat → Bool) : ∀ {k : Nat}, k ≤ ops.size → Rel (ph R D k) (R.hn k)
  | 0, _ => ⟨fun id l hl => ⟨l, hl, rfl⟩, fun id e sz els hl => ⟨els, hl⟩⟩
  | k + 1, hk => by
    have ih := ph_rel h D (k := k) (by omega)
    have hs := hn_rel_succ h (k := k) (by omega)
    obtain ⟨h1, h2⟩ := hn_succ h (k := k) (by omega)
    simp only [ph]
    split
    · -- both
      have hf : ∀ id off l c, R.e k = .put id off l → ph R D k id = some (.box c) → off + l.length ≤ c.length := fun id off l c he hc => by
        obtain ⟨c', h3, h4⟩ := e_put h (by omega) he
        obtain ⟨l', h5, h6⟩ := ih.box id c hc
        rw [h3] at h5; cases h5; omega
      have fresh : ∀ id, ph R D k id ≠ none → id ≠ R.mm k := fun id hid e => by
        cases hp : ph R D k id with
        | none => exact hid hp
        | some y =>
          have hn : R.hn k id = none := hn_free h (by omega) _ (by omega)
          cases y with
          | box l => obtain ⟨l', h5, _⟩ := ih.box id l hp; rw [hn] at h5; cases h5
          | row e2 sz els => obtain ⟨l', h5⟩ := ih.row id e2 sz els hp; rw [hn] at h5; cases h5
      rw [h1]
      cases he : R.e k with
      | nop => exact ih
      | new x =>
        simp only [Eff.app]
        refine ⟨fun id l hl => ?_, fun id e sz els hl => ?_⟩
        · by_cases e : id = R.mm k
          · subst e; rw [hset_same] at hl ⊢; cases hl; exact ⟨x, rfl, rfl⟩
          · rw [hset_ne _ _ e] at hl ⊢; exact ih.box id l hl
        · by_cases e' : id = R.mm k
          · subst e'; rw [hset_same] at hl; cases hl
          · rw [hset_ne _ _ e'] at hl ⊢; exact ih.row id e sz els hl
      | born e2 sz2 x =>
        simp only [Eff.app]
        refine ⟨fun id l hl => ?_, fun id e sz els hl => ?_⟩
        · by_cases e : id = R.mm k
          · subst e; rw [hset_same] at hl; cases hl
          · rw [hset_ne _ _ e] at hl ⊢; exact ih.box id l hl
        · by_cases e' : id = R.mm k
          · subst e'; rw [hset_same] at hl ⊢; cases hl; exact ⟨x, rfl⟩
          · rw [hset_ne _ _ e'] at hl ⊢; exact ih.row id e sz els hl
      | put i off x =>
        obtain ⟨c, h3, h4⟩ := e_put h (by omega) he
        simp only [Eff.app, h3]
        cases hp : ph R D k i with
        | none =>
          refine ⟨fun id l hl => ?_, fun id e sz els hl => ?_⟩
          · have e : id ≠ i := fun e => by subst e; simp only at hl; rw [hp] at hl; cases hl
            rw [hset_ne _ _ e]; exact ih.box id l hl
          · have e : id ≠ i := fun e => by subst e; simp only at hl; rw [hp] at hl; cases hl
            rw [hset_ne _ _ e]; exact ih.row id _ sz els hl
        | some y =>
          cases y with
          | row e2 sz2 els2 => obtain ⟨l', h5⟩ := ih.row i e2 sz2 els2 hp; rw [h3] at h5; cases h5
          | box c2 =>
            simp only
            refine ⟨fun id l hl => ?_, fun id e sz els hl => ?_⟩
            · by_cases e : id = i
              · subst e
                rw [hset_same] at hl ⊢; cases hl
                refine ⟨_, rfl, ?_⟩
                rw [splice_len _ _ _ h4, splice_len _ _ _ (hf _ _ _ _ he hp)]
                obtain ⟨l', h5, h6⟩ := ih.box id c2 hp
                rw [h3] at h5; cases h5; exact h6
              · rw [hset_ne _ _ e] at hl ⊢; exact ih.box id l hl
            · by_cases e' : id = i
              · subst e'; rw [hset_same] at hl; cases hl
              · rw [hset_ne _ _ e'] at hl ⊢; exact ih.row id e sz els hl
      | grow i e2 sz2 x =>
        obtain ⟨els0, h3⟩ := e_grow h (by omega) he
        simp only [Eff.app]
        refine ⟨fun id l hl => ?_, fun id e sz els hl => ?_⟩
        · by_cases e : id = i
          · subst e; rw [hset_same] at hl; cases hl
          · rw [hset_ne _ _ e] at hl ⊢; exact ih.box id l hl
        · by_cases e' : id = i
          · subst e'; rw [hset_same] at hl ⊢; cases hl; exact ⟨x, rfl⟩
          · rw [hset_ne _ _ e'] at hl ⊢; exact ih.row id e sz els hl
    · exact ih.trans hs
end
end Go.Proofs.Yteibeoipnjhicaa
