import Derived.Test.YteibeoipnjhicaaEve
namespace Go.Proofs.Yteibeoipnjhicaa
open Go Go.RowKit
set_option linter.unusedVariables false
set_option linter.unusedSimpArgs false
/-! One operation, in a world. -/
/-- An operation has yielded v. -/
def Gave (n : Next) (v : Value) : Prop := n = .value v ∨ (n = .skip ∧ v = undef)
def OpOk (P : Program) (w : World) (M0 : Nat → Nat → Prop) (σ : Nat → Gh) (H : Heap) (m : Nat) (S : Sem Next) (r : PV) (e : Eff) : Prop :=
  ∃ n v w' σ', S.run P w = .ok n w' ∧ Gave n v ∧ VV w' M0 σ' (e.app m H) v r ∧ HR w' M0 σ' (e.app m H) ∧ Fr w M0 σ H w' σ' (e.app m H) ∧ (∀ i, H i ≠ none → i ≠ m ∨ H m ≠ none)
section
variable {P : Program} {w : World} {M0 : Nat → Nat → Prop} {σ : Nat → Gh} {H : Heap} {m : Nat}
theorem opok_of {S : Sem Next} {r : PV} {e : Eff} {n : Next} {v : Value} {w' : World} {σ' : Nat → Gh} (hr : S.run P w = .ok n w') (hg : Gave n v) (hv : VV w' M0 σ' (e.app m H) v r) (hh : HR w' M0 σ' (e.app m H) ∧ Fr w M0 σ H w' σ' (e.app m H)) : OpOk P w M0 σ H m S r e := by
  refine ⟨n, v, w', σ', hr, hg, hv, hh.1, hh.2, fun i hi => ?_⟩
  by_cases e : i = m
  · exact .inr (e ▸ hi)
  · exact .inl e
theorem opok_keep (h : HR w M0 σ H) {S : Sem Next} {r : PV} {v : Value} (hr : S.run P w = .ok (.value v) w) (hv : VV w M0 σ H v r) : OpOk P w M0 σ H m S r .nop :=
  opok_of (e := .nop) hr (.inl rfl) hv ⟨h, Fr.refl _ _ _ _⟩
theorem run_v {S : Sem Value} {v : Value} {w w' : World} (h : S.run P w = .ok v w') : (do pure (Next.value (← S)) : Sem Next).run P w = .ok (.value v) w' := by
  simp [Sem.run_bind, h]
theorem run_u {S : Sem Unit} {w w' : World} (h : S.run P w = .ok () w') : (do S; pure Next.skip : Sem Next).run P w = .ok .skip w' := by
  simp [Sem.run_bind, h]
/-- A row of the call's own is read. -/
theorem row_sl (h : HR w M0 σ H) {id e sz : Nat} {els : List (List PV)} (hid : H id = some (.row e sz els)) : VV w M0 σ H (.slice (some ⟨(σ id).blk, 0, none⟩) els.length (σ id).cap) (.sl els) := by
  obtain ⟨r1, r2, r3, xs, r4, r5⟩ := h.row id e sz els hid
  have hcap : els.length ≤ (σ id).cap := by
    rcases r4.2 with ⟨h1, _⟩ | ⟨g, cap, cur, e1, _, _, h4, _⟩
    · cases h1
    · injection e1 with _ _ e3; omega
  have hcell := r4.cells (g := (σ id).blk) rfl
  refine .sl _ _ sz _ _ hcap r3 (fun q => xs.getD q undef) (fun q p hq => ?_) (fun q p hq => ?_)
  all_goals
    obtain ⟨v, hv, hr, h1⟩ := r5.get hq
    have hd : xs.getD q undef = v := by rw [List.getD_eq_getElem?_getD, hv]; rfl
    rw [hd]
  · refine ⟨?_, ?_, h1⟩
    · have := hcell q v hv; rwa [Addr.add_lit] at this
    · have hq2 : q < els.length * sz := by
        have := (List.getElem?_eq_some_iff.1 hq).1
        rwa [← r5.len, r4.1] at this
      rintro (h2 | ⟨i, l, h2, h3⟩ | ⟨i, e', sz', els', h2, h3, h4⟩)
      · exact h.sep id (by rw [hid]; simp) _ h2
      · have := h.inj i id (by rw [h2]; simp) (by rw [hid]; simp) h3
        subst this; rw [hid] at h2; cases h2
      · have := h.inj i id (by rw [h2]; simp) (by rw [hid]; simp) h3
        subst this; rw [hid] at h2; cases h2
        omega
  · exact hr
theorem vr_strip (h : HR w M0 σ H) {v : Value} {p : PV} (hv : VV w M0 σ H v p) : VV w M0 σ H v (strip H p) := by
  cases p with
  | nilsl => cases hv; exact .sl0 _ _
  | gr id k =>
    simp only [strip]
    split
    · rename_i e sz els hid
      split
      · rename_i hk
        cases hv with
        | gr _ _ _ h0 hle hL hh =>
          obtain ⟨r1, r2, _⟩ := h.row id e sz els hid
          rw [hh (by omega), ← hk]
          exact row_sl h hid
      · exact .any _
    · exact .any _
  | _ => exact hv
theorem VR.cells_list {M L} {v : Value} {l : List PV} (h : VR w M σ L v (.agg l)) : ∃ cs : List Value, v = .agg cs.toArray ∧ CR w M σ L cs l := by
  cases h with
  | agg cs l hl h1 h => exact ⟨cs, rfl, hl, h1, h⟩
/-- Elements, flat. -/
theorem flatten_at {els : List (List PV)} {sz : Nat} (hs : ∀ e ∈ els, e.length = sz) : ∀ {i : Nat} {c : List PV}, els[i]? = some c → ∀ j p, c[j]? = some p → els.flatten[i * sz + j]? = some p := by
  induction els with
  | nil => intro i c h; simp at h
  | cons x t ih =>
    intro i c h j p hj
    have hx := hs x (by simp)
    rw [List.flatten_cons]
    cases i with
    | zero =>
      simp at h; subst h
      rw [Nat.zero_mul, Nat.zero_add, List.getElem?_append_left (List.getElem?_eq_some_iff.1 hj).1]; exact hj
    | succ i =>
      rw [List.getElem?_append_right (by rw [hx, Nat.succ_mul]; omega), hx]
      rw [show (i + 1) * sz + j - sz = i * sz + j by rw [Nat.succ_mul]; omega]
      exact ih (fun e he => hs e (by simp [he])) (by simpa using h) j p hj
theorem flatten_length {els : List (List PV)} {sz : Nat} (hs : ∀ e ∈ els, e.length = sz) : els.flatten.length = els.length * sz := by
  induction els with
  | nil => simp
  | cons x t ih => rw [List.flatten_cons, List.length_append, hs x (by simp), ih (fun e he => hs e (by simp [he])), List.length_cons, Nat.succ_mul, Nat.add_comm]
theorem zeros_ok {t : TypeId} {l : List PV} (h : zeros P t = some l) : ∃ z, (zeroValue t).run P w = .ok z w ∧ ∀ {w M σ L}, CR w M σ L z.cells.toList l := by
  unfold zeros at h
  split at h
  · rename_i i hi
    split at h
    · rename_i z hz
      split at h
      · rename_i ho
        cases h
        refine ⟨z, ?_, cr_cv0 _ ho⟩
        simp [zeroValue, typeInfo, hi, hz]
      · cases h
    · cases h
  · cases h
theorem eInfo_ok {e sz by_ : Nat} (h : eInfo P e = some (sz, by_)) : ∃ i z, P.info? e = some i ∧ i.zero = some z ∧ i.size = sz ∧ i.bytes = by_ ∧ z.cells.size = sz ∧ 0 < sz := by
  unfold eInfo at h
  split at h
  · rename_i i hi
    split at h
    · rename_i z hz
      split at h
      · rename_i hc
        cases h
        exact ⟨i, z, hi, hz, rfl, rfl, hc.1, hc.2⟩
      · cases h
    · cases h
  · cases h
set_option maxHeartbeats 1000000 in
theorem bin_sound (op : BinOp) (t : TypeId) {x y : Value} {p q r : PV} (hx : VV w M0 σ H x p) (hy : VV w M0 σ H y q) (he : evBin P op t p q = some r) : ∀ (a b : Operand), ∃ v, (do eqGuard op t a b x y; binOp op t x y : Sem Value).run P w = .ok v w ∧ VV w M0 σ H v r := by
  intro A B
  cases p with
  | int k n =>
    cases q with
    | int k' n' =>
      cases hx; cases hy
      have hg : (eqGuard op t A B (.int k n) (.int k' n')).run P w = .ok () w := by
        unfold eqGuard
        cases op <;> simp
      rw [Sem.run_bind, hg]
      simp only [Result.andThen_ok]
      unfold evBin at he
      cases op <;> simp only [eInt, eShift] at he
      all_goals (try split at he)
      all_goals (try (cases he; done))
      all_goals (try split at he)
      all_goals (try (cases he; done))
      all_goals (cases he)
      all_goals (first
        | (rename_i hk; subst hk; refine ⟨_, ?_, VR.int _ _⟩; simp [binOp, Op.intArith, Op.intCmp, Op.intBits]; done)
        | (rename_i hk; subst hk; refine ⟨_, ?_, VR.bool _⟩; simp [binOp, Op.intArith, Op.intCmp, Op.intBits]; done)
        | (rename_i hk hb; subst hk; refine ⟨_, ?_, VR.int _ _⟩; simp [binOp, Op.intDiv, hb]; done)
        | (rename_i hb; refine ⟨_, ?_, VR.int _ _⟩; simp [binOp, Op.shift, hb]; done))
    | _ => simp [evBin] at he
  | bool b =>
    cases q with
    | bool b' =>
      cases hx; cases hy
      have hg : (eqGuard op t A B (.bool b) (.bool b')).run P w = .ok () w := by
        unfold eqGuard
        cases op <;> simp
      rw [Sem.run_bind, hg]
      simp only [Result.andThen_ok]
      simp only [evBin] at he
      split at he
      · rename_i hu
        cases op <;> simp only [] at he
        all_goals (try (cases he; done))
        all_goals (cases he)
        · exact ⟨.bool (b == b'), by simp [binOp, run_equal_bool w t b b' hu], by constructor⟩
        · exact ⟨.bool (!(b == b')), by simp [binOp, run_equal_bool w t b b' hu], by constructor⟩
      · cases he
    | _ => simp [evBin] at he
  | ifc t0 q0 =>
    cases q with
    | nilif =>
      cases hx with
      | ifc _ v _ hv =>
      cases hy
      have hg : (eqGuard op t A B (.iface t0 v) .nilIface).run P w = .ok () w := by
        unfold eqGuard
        cases op <;> simp
      rw [Sem.run_bind, hg]
      simp only [Result.andThen_ok]
      simp only [evBin] at he
      split at he
      · rename_i hi
        obtain ⟨ms, hu⟩ : ∃ ms, P.underlying t = some (.interface ms) := by
          unfold ifcT at hi
          cases hu : P.underlying t with
          | none => rw [hu] at hi; cases hi
          | some d =>
            rw [hu] at hi
            cases d <;> first | exact ⟨_, rfl⟩ | (simp at hi)
        have hq : ∀ d, (Op.equalIn (d + 1) t (.iface t0 v) .nilIface).run P w = .ok false w := fun d => by
          simp [Op.equalIn, run_underlying hu]
        have hq : (Op.equal t (.iface t0 v) .nilIface).run P w = .ok false w := hq 9999
        cases op <;> simp only [] at he
        all_goals (try (cases he; done))
        all_goals (cases he)
        · exact ⟨.bool false, by simp [binOp, hq], .bool _⟩
        · exact ⟨.bool true, by simp [binOp, hq], .bool _⟩
      · cases he
    | _ => simp [evBin] at he
  | agg l =>
    cases q with
    | agg l' =>
      simp only [evBin] at he
      split at he
      · cases he
      · rename_i hgt
        split at he
        · rename_i a b ha hb
          obtain ⟨cs, rfl, hc⟩ := VR.cells_list hx
          obtain ⟨cs', rfl, hc'⟩ := VR.cells_list hy
          have hg : (eqGuard op t A B (.agg cs.toArray) (.agg cs'.toArray)).run P w = .ok () w := by
            unfold eqGuard
            have hgt' : P.eqGuardType P.depth t = false := by cases hq : P.eqGuardType P.depth t with | false => rfl | true => exact absurd (Or.inl hq) hgt
            cases op <;> first | rfl | (simp only [Bool.not_true, Bool.false_eq_true, if_false, Sem.run_bind, Sem.run_pure, Result.andThen_ok, run_program, hgt', Bool.not_false, if_true]; done)
          have hf : fits P t (.agg cs.toArray) cs ∧ fits P t (.agg cs'.toArray) cs' := by
            have hag : aggT P t = some true := Decidable.not_not.1 fun hq => hgt (.inr hq)
            obtain ⟨_, _, _, d, hu, hd⟩ := info_of hag
            unfold fits
            rw [hu]
            cases d <;> first | exact ⟨rfl, rfl⟩ | (exfalso; exact Bool.noConfusion hd)
          obtain ⟨heq, _⟩ := eq_ok (P := P) (w := w) 9980 20 t cs cs' l l' a b _ _ hc hc' ha hb hf.1 hf.2
          rw [Sem.run_bind, hg]
          simp only [Result.andThen_ok]
          cases op <;> simp only [] at he
          all_goals (try (cases he; done))
          all_goals (cases he)
          · exact ⟨.bool (eqL a b), by rw [run_eql_struct w t, heq]; rfl, by constructor⟩
          · exact ⟨.bool (!eqL a b), by rw [run_neq_struct w t, heq]; rfl, by constructor⟩
        · cases he
    | _ => simp [evBin] at he
  | _ => simp [evBin] at he
end
end Go.Proofs.Yteibeoipnjhicaa
