import Derived.Test.YtklpedooijlnlaaEvi
namespace Go.Proofs.Ytklpedooijlnlaa
open Go Go.RowKit
set_option linter.unusedVariables false
set_option linter.unusedSimpArgs false
section
variable {P : Program} {w : World} {M0 : Nat → Nat → Prop} {σ : Nat → Gh} {H : Heap} {m : Nat}
theorem op_val (h : HR w M0 σ H) {S : Sem Next} {r : PV} {v : Value} (hr : S = pure (.value v)) (hv : VV w M0 σ H v r) : OpOk P w M0 σ H m S r .nop := by
  subst hr; exact opok_keep h rfl hv
theorem map_rel {ev : Operand → Value} {ρ : Operand → PV} {xs : Array Operand} (hs : ∀ x ∈ xs, VV w M0 σ H (ev x) (ρ x)) : (xs.map ev).toList.length = (xs.toList.map ρ).length ∧
    ∀ (i : Nat) (v : Value) (p : PV), (xs.map ev).toList[i]? = some v → (xs.toList.map ρ)[i]? = some p → VV w M0 σ H v p := by
  obtain ⟨xs⟩ := xs
  refine ⟨by simp, fun i v p hv hp => ?_⟩
  simp only [List.map_toArray, List.getElem?_map] at hv hp
  cases hx : xs[i]? with
  | none => rw [hx] at hp; cases hp
  | some q =>
    rw [hx] at hv hp
    simp only [Option.map_some, Option.some.injEq] at hv hp
    subst hv; subst hp
    exact hs q (by simp only [List.mem_toArray]; exact List.mem_of_getElem? hx)
set_option maxHeartbeats 2000000 in
theorem op_sound (h : HR w M0 σ H) (hm : H m = none) {ev : Operand → Value} {ρ : Operand → PV} {s : PV → PV} {o : Oper} (hρ : ∀ x ∈ o.op.operands, VV w M0 σ H (ev x) (ρ x)) (hs : ∀ x ∈ o.op.operands, VV w M0 σ H (ev x) (s (ρ x))) {r : PV} {e : Eff}
    (he : evOp P ρ s H m o.op = some (r, e)) : OpOk P w M0 σ H m (execOp ev o) r e := by
  obtain ⟨dst, op, ty, pos, after, guard⟩ := o
  simp only at hρ hs he
  unfold evOp at he
  split at he
  · -- move
    rename_i x
    cases he
    exact op_val h rfl (hρ x (by simp [Op.operands]))
  · rename_i x
    cases he
    exact op_val h rfl (hρ x (by simp [Op.operands]))
  · rename_i c a b
    split at he
    · rename_i t hc
      cases he
      have hc' := hρ c (by simp [Op.operands])
      rw [hc] at hc'
      have ec : ev c = .bool t := by generalize hv : ev c = v at hc'; cases hc'; rfl
      refine op_val h (v := if t then ev a else ev b) ?_ ?_
      · simp only [execOp, ec, asBool, pure_bind]
      · cases t
        · exact hρ b (by simp [Op.operands])
        · exact hρ a (by simp [Op.operands])
    · cases he
  · rename_i t
    split at he
    · rename_i l hz; cases he; exact op_alloc h hm hz
    · cases he
  · rename_i t x
    split at he
    · rename_i l hc; cases he; exact op_box h hm (hs x (by simp [Op.operands])) hc
    · cases he
  · rename_i t parts
    rw [Option.map_eq_some_iff] at he
    obtain ⟨r', hr, e'⟩ := he
    cases e'
    exact op_build h (ρ := fun x => s (ρ x)) (fun x hx => hs x (by simpa [Op.operands] using hx)) hr
  · rename_i t n parts
    rw [Option.map_eq_some_iff] at he
    obtain ⟨r', hr, e'⟩ := he
    cases e'
    exact op_buildSlice h (ρ := fun x => s (ρ x)) (fun x hx => hs x (by simpa [Op.operands] using hx)) hr
  · rename_i t a
    exact op_load h he (hρ a (by simp [Op.operands]))
  · rename_i t a x
    split at he
    · rename_i id off ha
      split at he
      · rename_i l hl
        split at he
        · rename_i c hid
          split at he
          · rename_i hc
            cases he
            have ha' := hρ a (by simp [Op.operands])
            rw [ha] at ha'
            exact op_store h ha' (hs x (by simp [Op.operands])) hl hid hc.1 hc.2.1 hc.2.2
          · cases he
        · cases he
      · cases he
    · cases he
  · rename_i x
    have hx := hρ x (by simp [Op.operands])
    split at he
    · rename_i id off hp
      cases he
      rw [hp] at hx
      generalize hv : ev x = v at hx
      cases hx with
      | ptr _ _ hL h0 => exact op_val h (by simp only [execOp, hv]) (.ptr id off hL h0)
    · rename_i l hp
      cases he
      rw [hp] at hx
      generalize hv : ev x = v at hx
      cases hx with
      | ref b o _ f h1 h2 => exact op_val h (by simp only [execOp, hv]) (.ref b o l f h1 h2)
    · rename_i f a b hp
      cases he
      rw [hp] at hx
      generalize hv : ev x = v at hx
      cases hx with
      | fn _ fs cs l1 l2 h1 h2 h3 h4 => exact op_val h (by simp only [execOp, hv]) (.fn _ fs cs _ _ h1 h2 h3 h4)
    · cases he
  · rename_i bop t x y ty'
    rw [Option.map_eq_some_iff] at he
    obtain ⟨r', hr, e'⟩ := he
    cases e'
    obtain ⟨v, h1, h2⟩ := bin_sound bop t (hρ x (by simp [Op.operands])) (hρ y (by simp [Op.operands])) hr x y
    exact opok_keep h (run_v h1) h2
  · rename_i uop t x
    have hx := hρ x (by simp [Op.operands])
    split at he
    · split at he
      · rename_i b hp
        cases he
        rw [hp] at hx
        generalize hv : ev x = v at hx
        cases hx
        exact op_val h (by simp only [execOp, hv]; rfl) (.bool _)
      · cases he
    · split at he
      · rename_i k n hp
        cases he
        rw [hp] at hx
        generalize hv : ev x = v at hx
        cases hx
        exact op_val h (by simp only [execOp, hv]; rfl) (.int _ _)
      · cases he
    · split at he
      · rename_i k n hp
        rw [hp] at hx
        simp only [eInt, Option.map_some, Option.some.injEq, Prod.mk.injEq] at he
        obtain ⟨rfl, rfl⟩ := he
        generalize hv : ev x = v at hx
        cases hx
        exact op_val h (by simp only [execOp, hv]; rfl) (.int _ _)
      · cases he
    · cases he
  · rename_i src dst' x
    have hx := hρ x (by simp [Op.operands])
    split at he
    · rename_i d1 h1
      split at he
      · rename_i k h2
        split at he
        · rename_i k' n hp
          cases he
          rw [hp] at hx
          generalize hv : ev x = v at hx
          cases hx
          refine opok_keep h (v := .int k (k.wrap n)) (run_v ?_) (.int _ _)
          rw [hv]
          unfold convert
          rw [Sem.run_bind, run_underlying h1]
          simp only [Result.andThen_ok]
          rw [Sem.run_bind, run_underlying h2]
          simp only [Result.andThen_ok]
          rfl
        · cases he
      · cases he
    · cases he
  · rename_i t x
    split at he
    · cases he
    · rename_i d hd hni
      cases he
      refine opok_keep h (v := .iface t (ev x)) (run_v ?_) (.ifc t _ _ (hs x (by simp [Op.operands])))
      unfold Instr.makeInterface
      rw [Sem.run_bind, run_underlying hni]
      simp only [Result.andThen_ok]
      rfl
    · cases he
  · rename_i f first cap
    cases he
    obtain ⟨a1, a2⟩ := map_rel (w := w) (M0 := M0) (σ := σ) (H := H) (ev := ev) (ρ := fun x => s (ρ x)) (xs := first) (fun x hx => hs x (by simp [Op.operands, hx]))
    obtain ⟨b1, b2⟩ := map_rel (w := w) (M0 := M0) (σ := σ) (H := H) (ev := ev) (ρ := fun x => s (ρ x)) (xs := cap) (fun x hx => hs x (by simp [Op.operands, hx]))
    refine opok_keep h (v := .func f (first.map ev) (cap.map ev)) (run_v rfl) ?_
    have := VR.fn (w := w) (M := MU M0 σ H) (σ := σ) (L := LV H) f (first.map ev).toList (cap.map ev).toList _ _ a1 b1 a2 b2
    simp only [Array.toArray_toList] at this
    exact this
  · rename_i t x y
    rw [Option.map_eq_some_iff] at he
    obtain ⟨r', hr, e'⟩ := he
    cases e'
    exact op_make h (hρ x (by simp [Op.operands])) (hρ y (by simp [Op.operands])) hr
  · rename_i t x lo hi
    rw [Option.map_eq_some_iff] at he
    obtain ⟨r', hr, e'⟩ := he
    cases e'
    refine op_slice h (hs x (by simp [Op.operands])) (plo := lo.map ρ) (phi := hi.map ρ) ?_ (fun e => ?_) ?_ (fun e => ?_) hr
    · intro v hv
      cases lo with
      | none => cases hv
      | some y => cases hv; exact ⟨ρ y, rfl, hρ y (by simp [Op.operands])⟩
    · cases lo with
      | none => rfl
      | some y => cases e
    · intro v hv
      cases hi with
      | none => cases hv
      | some y => cases hv; exact ⟨ρ y, rfl, hρ y (by simp [Op.operands])⟩
    · cases hi with
      | none => rfl
      | some y => cases e
  · rename_i t x f
    split at he
    · rename_i ft o' hf
      exact op_fieldAddr h hf he (hρ x (by simp [Op.operands]))
    · cases he
  · rename_i t x f
    split at he
    · rename_i ft o' hf
      split at he
      · rename_i l hp
        rw [Option.map_eq_some_iff] at he
        obtain ⟨r', hr, e'⟩ := he
        cases e'
        have hx := hρ x (by simp [Op.operands])
        rw [hp] at hx
        exact op_field h hx hf hr
      · cases he
    · cases he
  · rename_i t x i
    rw [Option.map_eq_some_iff] at he
    obtain ⟨r', hr, e'⟩ := he
    cases e'
    exact op_indexAddr h (hs x (by simp [Op.operands])) (hρ i (by simp [Op.operands])) hr
  · rename_i t x i
    rw [Option.map_eq_some_iff] at he
    obtain ⟨r', hr, e'⟩ := he
    cases e'
    exact op_index h (hρ x (by simp [Op.operands])) (hρ i (by simp [Op.operands])) hr
  · rename_i x i
    split at he
    · rename_i l hp
      rw [Option.map_eq_some_iff] at he
      obtain ⟨r', hr, e'⟩ := he
      cases e'
      have hx := hρ x (by simp [Op.operands])
      rw [hp] at hx
      generalize hv : ev x = v at hx
      cases hx with
      | tup cs _ hl hh =>
        have hi : i < cs.length := by rw [hl]; exact (List.getElem?_eq_some_iff.1 hr).1
        refine op_val h (v := cs[i]) ?_ (hh i _ _ (List.getElem?_eq_getElem hi) hr)
        simp only [execOp, hv, Instr.extract, List.getElem?_toArray, List.getElem?_eq_getElem hi]
        rfl
    · cases he
  · rename_i c
    split at he
    · rename_i hc
      split at he
      · rename_i x t hx ht
        split at he
        · rename_i hn
          rw [Option.map_eq_some_iff] at he
          obtain ⟨r', hr, e'⟩ := he
          cases e'
          have hargs : c.args = #[x] := by
            obtain ⟨callee, args, ats⟩ := c
            obtain ⟨args⟩ := args
            simp only [List.size_toArray] at hn
            obtain ⟨y, rfl⟩ := List.length_eq_one_iff.1 hn
            simp at hx; subst hx; rfl
          have hv := hs x (by simp [Op.operands, Call.operands, hc, hargs])
          have key : ∃ v, (Builtin.len_ c.argTypes ty #[ev x]).run P w = .ok v w ∧ VV w M0 σ H v r := by
            unfold evLen at hr
            unfold Builtin.len_
            simp only [ht, List.getElem?_toArray, List.getElem?_cons_zero]
            split at hr
            · rename_i e0 hu
              split at hr
              · rename_i els hp
                cases hr
                rw [Sem.run_bind, run_underlying hu]
                simp only [Result.andThen_ok]
                rw [hp] at hv
                rcases sl_cases hv with ⟨rfl, A, cap, hvv⟩ | ⟨b, o, sz, cap, f, hvv, _⟩
                · rw [hvv]; exact ⟨_, rfl, .int _ _⟩
                · rw [hvv]; exact ⟨_, rfl, .int _ _⟩
              · rename_i id n hp
                cases hr
                rw [Sem.run_bind, run_underlying hu]
                simp only [Result.andThen_ok]
                rw [hp] at hv
                generalize ev x = vv at hv
                cases hv with
                | bs _ _ cap hL h0 hc => exact ⟨_, rfl, .int _ _⟩
              · rename_i hp
                cases hr
                rw [Sem.run_bind, run_underlying hu]
                simp only [Result.andThen_ok]
                rw [hp] at hv
                generalize ev x = vv at hv
                cases hv with
                | bz A => exact ⟨_, rfl, .int _ _⟩
              · cases hr
            · rename_i n e0 hu
              cases hr
              rw [Sem.run_bind, run_underlying hu]
              simp only [Result.andThen_ok]
              exact ⟨_, rfl, .int _ _⟩
            · cases hr
          obtain ⟨v, h1, h2⟩ := key
          refine opok_keep h (v := v) ?_ h2
          simp only [execOp, resolve, hc, hargs, invoke, builtin, pure_bind, List.map_toArray, List.map_cons, List.map_nil, Sem.run_bind, h1, Result.andThen_ok, Sem.run_pure]
        · cases he
      · cases he
    · rename_i hc
      split at he
      · rename_i x y t t' ha hts
        have hargs : c.args = #[x, y] := by rw [← Array.toArray_toList (xs := c.args), ha]
        have htys : c.argTypes = #[t, t'] := by rw [← Array.toArray_toList (xs := c.argTypes), hts]
        have := op_append (P := P) (ty := ty) h hm (hρ x (by simp [Op.operands, Call.operands, hc, hargs])) (hs y (by simp [Op.operands, Call.operands, hc, hargs])) he
        have e1 : execOp ev { dst := dst, op := .call c, type := ty, pos := pos, after := after, guard := guard } = (do pure (.value (← Builtin.append_ #[t, t'] ty #[ev x, ev y]))) := by
          simp only [execOp, resolve, hc, hargs, htys, invoke, builtin, pure_bind, List.map_toArray, List.map_cons, List.map_nil]
        rw [e1]; exact this
      · cases he
    · cases he
  · cases he
end
end Go.Proofs.Ytklpedooijlnlaa
