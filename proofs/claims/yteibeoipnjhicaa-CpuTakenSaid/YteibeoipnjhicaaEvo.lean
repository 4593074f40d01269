import Derived.Test.YteibeoipnjhicaaEvn
namespace Go.Proofs.Yteibeoipnjhicaa
open Go Go.RowKit
set_option linter.unusedVariables false
set_option linter.unusedSimpArgs false
section
variable {P : Program} {ops : Array Oper}
theorem cut_congr {t : TypeId} {l l' : List PV} {off : Nat} (hl : l.length = l'.length) (hr : (l.drop off).take (if aggT P t = some true then P.cellsOf t else 1) = (l'.drop off).take (if aggT P t = some true then P.cellsOf t else 1)) : cut P t l off = cut P t l' off := by
  unfold Go.Proofs.Yteibeoipnjhicaa.cut
  split
  · rename_i ha
    rw [if_pos ha] at hr
    rw [hl, hr]
  · rename_i ha
    rw [if_neg (by rw [ha]; simp)] at hr
    have h1 : ∀ k : List PV, k[off]? = ((k.drop off).take 1)[0]? := fun k => by rw [List.getElem?_take, if_pos (by omega), List.getElem?_drop, Nat.add_zero]
    rw [h1 l, h1 l', hr]
  · rfl
theorem evAppend_gr {id k m t t' : Nat} {y : PV} {H : Heap} {x : PV × Eff} (he : evAppend P (.gr id k) y H m t t' = some x) : ∃ e sz els, H id = some (.row e sz els) := by
  unfold evAppend at he
  split at he <;> (try (simp at he; done))
  split at he <;> (try (simp at he; done))
  split at he <;> (try (simp at he; done))
  split at he <;> (try (simp at he; done))
  split at he <;> (try (simp at he; done))
  simp only at he
  split at he <;> (try (simp at he; done))
  rename_i e sz els hid
  exact ⟨e, sz, els, hid⟩
theorem evOp_heap {ρ : Operand → PV} {s : PV → PV} {H H' : Heap} {m : Nat} {op : Op} {x : PV × Eff} (he : evOp P ρ s H m op = some x)
    (cb : ∀ y ∈ op.operands, ∀ id off, ρ y = .ptr id off → ∀ l, H id = some (.box l) → ∃ l', H' id = some (.box l') ∧ l.length = l'.length ∧ ∀ g ∈ rdOf P ρ op, g.id = id → g.whole = false → (l.drop g.lo).take (g.hi - g.lo) = (l'.drop g.lo).take (g.hi - g.lo))
    (cr : ∀ y ∈ op.operands, ∀ id k, ρ y = .gr id k → (⟨id, 0, 0, true⟩ : Rg) ∈ rdOf P ρ op → ∀ e sz els, H id = some (.row e sz els) → H' id = H id) : evOp P ρ s H' m op = some x := by
  cases op
  case load t a =>
    simp only [evOp] at he ⊢
    cases hp : ρ a with
    | ptr id off =>
      rw [hp] at he
      simp only at he ⊢
      split at he
      · rename_i l hid
        obtain ⟨l', h1, h2, h3⟩ := cb a (by simp [Op.operands]) id off hp l hid
        have := h3 ⟨id, off, off + (if aggT P t = some true then P.cellsOf t else 1), false⟩ (by simp [rdOf, hp]) rfl rfl
        simp only [Nat.add_sub_cancel_left] at this
        rw [h1]
        simp only
        rw [← cut_congr h2 this]; exact he
      · cases he
    | _ => rw [hp] at he; exact he
  case store t a y =>
    simp only [evOp] at he ⊢
    cases hp : ρ a with
    | ptr id off =>
      rw [hp] at he
      simp only at he ⊢
      split at he
      · rename_i l hl
        split at he
        · rename_i c hid
          obtain ⟨l', h1, h2, h3⟩ := cb a (by simp [Op.operands]) id off hp c hid
          rw [h1]
          simp only
          rw [← h2]; exact he
        · cases he
      · cases he
    | _ => rw [hp] at he; exact he
  case call c =>
    simp only [evOp] at he ⊢
    cases hc : c.callee with
    | value f => rw [hc] at he; exact he
    | invoke r n => rw [hc] at he; exact he
    | builtin b =>
      rw [hc] at he
      cases b <;> first
        | exact he
        | ((try simp only at he ⊢)
           split at he
           · rename_i x1 y1 t1 t2 ha ht
             (try simp only at he ⊢)
             cases hp : ρ x1 with
             | gr id k =>
               rw [hp] at he
               obtain ⟨e, sz, els, hid⟩ := evAppend_gr he
               have : H' id = H id := cr x1 (by
                 have : x1 ∈ c.args := Array.mem_toList_iff.1 (by rw [ha]; simp)
                 simp [Op.operands, Call.operands, hc, this]) id k hp (by simp [rdOf, ha, hp]) e sz els hid
               rw [← he]
               unfold evAppend
               simp only [this]
             | _ => rw [hp] at he; unfold evAppend at he ⊢; exact he
           · cases he)
  case slice t x lo hi mx => cases mx <;> exact he
  case typeAssert x xt t ok => cases ok <;> exact he
  all_goals exact he
theorem meets_comm (a b : Rg) : a.meets b = b.meets a := by
  unfold Rg.meets
  rw [show (a.id == b.id) = (b.id == a.id) from Bool.beq_comm]
  cases a.whole <;> cases b.whole <;> simp [Bool.and_comm]
theorem apart_get {a b : List Rg} (h : apartL a b = true) {x y : Rg} (hx : x ∈ a) (hy : y ∈ b) : x.meets y = false := by
  have := List.all_eq_true.1 (List.all_eq_true.1 h x hx) y hy
  simpa using this
variable {R : Run P ops} {m0 : Nat}
theorem wr_rd (h : RunOk R m0) {j k : Nat} (hj : j < ops.size) (hk : k < ops.size) (hne : k ≠ j) : ∀ g' ∈ (R.e k).wr, ∀ g ∈ R.rd j, g'.meets g = false := by
  intro g' hg' g hg
  rcases Nat.lt_or_ge k j with hlt | hge
  · have := h.pair k j hlt hj
    simp only [okPair, Bool.and_eq_true] at this
    exact apart_get this.2.1 hg' hg
  · have := h.pair j k (by omega) hk
    simp only [okPair, Bool.and_eq_true] at this
    rw [meets_comm]; exact apart_get this.2.2 hg hg'
/-- What an operation reads stands there, whatever else has been done. -/
theorem part_reads (h : RunOk R m0) (D : Nat → Bool) {j : Nat} (hj : j < ops.size) (hD : D j = false) {ρ : Operand → PV} {op : Op} (hrd : R.rd j = rdOf P ρ op)
    (hlive : ∀ y ∈ op.operands, (∀ id off, ρ y = .ptr id off → ph R D ops.size id ≠ none) ∧ (∀ id k, ρ y = .gr id k → ph R D ops.size id ≠ none)) {s : PV → PV} {m : Nat} {x : PV × Eff} (he : evOp P ρ s (R.hn j) m op = some x) : evOp P ρ s (ph R D ops.size) m op = some x := by
  have hb : R.hn j = ph R (before j) ops.size := by rw [hn_ph h j (Nat.le_refl _), Nat.min_eq_right (by omega)]
  have hor : ∀ k, (before j k = true ∨ D k = true) → k ≠ j := fun k hk e => by
    subst e; simp [before, hD] at hk
  refine evOp_heap he (fun y hy id off hp l hl => ?_) (fun y hy id k hp hg e sz els hl => ?_)
  · have hlv := (hlive y hy).1 id off hp
    rw [hb] at hl
    obtain ⟨l2, g1, g2⟩ := (ph_rel h (before j) (Nat.le_refl _)).box id l hl
    cases hq : ph R D ops.size id with
    | none => exact absurd hq hlv
    | some z =>
      cases z with
      | row e2 sz2 els2 => obtain ⟨l3, g3⟩ := (ph_rel h D (Nat.le_refl _)).row id e2 sz2 els2 hq; rw [g1] at g3; cases g3
      | box l' =>
        obtain ⟨l3, g3, g4⟩ := (ph_rel h D (Nat.le_refl _)).box id l' hq
        rw [g1] at g3; cases g3
        refine ⟨l', rfl, by omega, fun g hg hgid hgw => ?_⟩
        obtain ⟨gid, glo, ghi, gw⟩ := g
        simp only at hgid hgw
        subst hgid
        subst hgw
        obtain ⟨_, g5⟩ := ph_range h (before j) D gid glo ghi (fun k hk hkor g' hg' => wr_rd h hj hk (hor k hkor) g' hg' _ (by rw [hrd]; exact hg)) (Nat.le_refl _) l l' hl hq
        exact g5
  · have hlv := (hlive y hy).2 id k hp
    rw [hb] at hl ⊢
    refine (ph_same h (before j) D id (fun k' hk' hkor hc ht => ?_) (Nat.le_refl _) (by rw [hl]; simp) hlv).symm
    have hm := fun g' hg' => wr_rd h hj hk' (hor k' hkor) g' hg' ⟨id, 0, 0, true⟩ (by rw [hrd]; exact hg)
    cases hq : R.e k' with
    | nop => rw [hq] at ht; cases ht
    | new _ => rw [hq] at hc; simp [Eff.cnt] at hc
    | born _ _ _ => rw [hq] at hc; simp [Eff.cnt] at hc
    | put i off x => rw [hq] at ht hm; cases ht; have := hm _ (by simp [Eff.wr]; rfl); simp [Rg.meets] at this
    | grow i e' sz' x => rw [hq] at ht hm; cases ht; have := hm _ (by simp [Eff.wr]; rfl); simp [Rg.meets] at this
end
end Go.Proofs.Yteibeoipnjhicaa
