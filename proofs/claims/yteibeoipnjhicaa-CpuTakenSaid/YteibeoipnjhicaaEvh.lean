import Derived.Test.YteibeoipnjhicaaEvg
namespace Go.Proofs.Yteibeoipnjhicaa
open Go Go.RowKit
set_option linter.unusedVariables false
set_option linter.unusedSimpArgs false
section
variable {P : Program} {w : World} {M0 : Nat → Nat → Prop} {σ : Nat → Gh} {H : Heap} {m : Nat}
theorem ref_cells {M L} {b o : Nat} {l : List PV} {f : Nat → Value} (hcell : ∀ (q : Nat) (p : PV), l[q]? = some p → w.cell? ⟨b, o + q, none⟩ = some (f q) ∧ ¬ M b (o + q) ∧ (f q).oneCell' = true)
    (h : ∀ (q : Nat) (p : PV), l[q]? = some p → VR w M σ L (f q) p) : CR w M σ L ((List.range l.length).map f) l ∧ ∀ j v, ((List.range l.length).map f)[j]? = some v → w.cell? ⟨b, o + j, none⟩ = some v := by
  have key : ∀ j v, ((List.range l.length).map f)[j]? = some v → ∃ p, l[j]? = some p ∧ v = f j := by
    intro j v hv
    have hj : j < l.length := by
      have := (List.getElem?_eq_some_iff.1 hv).1; simpa using this
    rw [List.getElem?_map, List.getElem?_range hj] at hv
    exact ⟨l[j], List.getElem?_eq_getElem hj, by simpa using hv.symm⟩
  refine ⟨⟨by simp, fun v hv => ?_, fun i v p hv hp => ?_⟩, fun j v hv => ?_⟩
  · obtain ⟨j, hj⟩ := List.getElem?_of_mem hv
    obtain ⟨p, hp, rfl⟩ := key j v hj
    exact (hcell j p hp).2.2
  · obtain ⟨_, _, rfl⟩ := key i v hv
    exact h i p hp
  · obtain ⟨p, hp, rfl⟩ := key j v hv
    exact (hcell j p hp).1
theorem op_load (h : HR w M0 σ H) {t : TypeId} {v : Value} {p r : PV} {e : Eff}
    (he : (match p with
      | .ref l => (cut P t l 0).map (·, Eff.nop)
      | .ptr id off => match H id with
        | some (.box l) => (cut P t l off).map (·, Eff.nop)
        | _ => none
      | _ => none) = some (r, e)) (hv : VV w M0 σ H v p) : OpOk P w M0 σ H m (do pure (.value (← Instr.loadAt t v))) r e := by
  cases p with
  | ref l =>
    simp only [Option.map_eq_some_iff, Prod.mk.injEq] at he
    obtain ⟨r', hr, rfl, rfl⟩ := he
    cases hv with
    | ref b o _ f hcell hh =>
      obtain ⟨c1, c2⟩ := ref_cells hcell hh
      obtain ⟨v, h1, h2⟩ := load_sound (P := P) c2 c1 hr
      refine opok_keep h (run_v ?_) h2
      simp only [Instr.loadAt, Instr.sureAddr, Sem.run_bind, Sem.run_pure, Result.andThen_ok]
      exact h1
  | ptr id off =>
    simp only at he
    split at he
    · rename_i l hid
      simp only [Option.map_eq_some_iff, Prod.mk.injEq] at he
      obtain ⟨r', hr, rfl, rfl⟩ := he
      cases hv with
      | ptr _ _ hL h0 =>
        obtain ⟨_, c, t', hg, _, hcr⟩ := h.box id l hid
        obtain ⟨v, h1, h2⟩ := load_sound (P := P) (b := (σ id).blk) (o := 0) (w := w) (fun j v hv => by
          rw [cell_of_row w _ _ c t' (0, 0) hg, Nat.zero_add]; rw [List.getElem?_take] at hv; split at hv <;> simp_all) hcr hr
        refine opok_keep h (run_v ?_) h2
        simp only [Instr.loadAt, Instr.sureAddr, Sem.run_bind, Sem.run_pure, Result.andThen_ok]
        rw [Nat.zero_add] at h1
        exact h1
    · cases he
  | _ => simp at he
theorem op_store (h : HR w M0 σ H) {t : TypeId} {va vx : Value} {id off : Nat} {px : PV} {l c : List PV} (ha : VV w M0 σ H va (.ptr id off)) (hx : VV w M0 σ H vx px) (hl : px.cells? = some l) (hid : H id = some (.box c))
    (h1 : l.length = P.cellsOf t) (h2 : (P.info? t).isSome = true) (h3 : off + l.length ≤ c.length) : OpOk P w M0 σ H m (do (Instr.storeAt t va vx); pure .skip) .undef (.put id off l) := by
  obtain ⟨i, hi⟩ := Option.isSome_iff_exists.1 h2
  have hcr := one_of_cells hx hl
  cases ha with
  | ptr _ _ hL h0 =>
    obtain ⟨_, cs, t', hg, _, hcs⟩ := h.box id c hid
    have hcl : c.length ≤ cs.toList.length := by have := hcs.len; rw [List.length_take] at this; omega
    have hst := run_storeCells_at (P := P) (σ id).blk off t' vx.cells.toList 0 cs w hg (by rw [hcr.len, ← Array.length_toList (xs := cs)]; omega) hcr.one
    have happ : Eff.app m H (.put id off l) = hset H id (some (.box (splice c off l))) := by simp [Eff.app, hid]
    have hput := h.put hid hg (l' := splice c off l) (c' := (splice cs.toList off vx.cells.toList).toArray) (splice_len _ _ _ h3) (by rw [List.size_toArray, splice_len _ _ _ (by rw [hcr.len]; omega), Array.length_toList]) (by rw [splice_len _ _ _ h3, List.toList_toArray, splice_take _ _ _ _ (by rw [hcr.len]; exact h3) hcl]; exact hcs.splice hcr h3)
    refine opok_of (e := .put id off l) (n := .skip) (v := undef) (σ' := σ) (w' := w.setRow (σ id).blk (splice cs.toList off vx.cells.toList).toArray) (run_u ?_) (.inr ⟨rfl, rfl⟩) (by rw [happ]; exact .undef) (by rw [happ]; exact hput)
    have hsz : vx.cells.size = P.cellsOf t := by rw [← Array.length_toList, hcr.len, h1]
    simp only [Instr.storeAt, Instr.sureAddr, Sem.run_bind, Sem.run_pure, Result.andThen_ok, storeVar, run_sizeOf w hi, hsz, ne_eq, not_true_eq_false, if_false]
    simp only [Nat.add_zero] at hst
    exact hst
theorem sl_cases {M L} {v : Value} {els : List (List PV)} (hv : VR w M σ L v (.sl els)) : (els = [] ∧ ∃ A cap, v = .slice A 0 cap) ∨
    ∃ (b o sz cap : Nat) (f : Nat → Value), v = .slice (some ⟨b, o, none⟩) els.length cap ∧ els.length ≤ cap ∧ (∀ e ∈ els, e.length = sz) ∧ (∀ (q : Nat) (p : PV), els.flatten[q]? = some p → w.cell? ⟨b, o + q, none⟩ = some (f q) ∧ ¬ M b (o + q) ∧ (f q).oneCell' = true) ∧ ∀ (q : Nat) (p : PV), els.flatten[q]? = some p → VR w M σ L (f q) p := by
  cases hv with
  | sl0 A cap => exact .inl ⟨rfl, A, cap, rfl⟩
  | sl b o sz cap _ hc hs f hcell h => exact .inr ⟨b, o, sz, cap, f, rfl, hc, hs, hcell, h⟩
theorem sub_get {els : List (List PV)} {sz : Nat} (hs : ∀ e ∈ els, e.length = sz) (l h : Nat) (hh : h ≤ els.length) {q : Nat} {p : PV} (hq : ((els.take h).drop l).flatten[q]? = some p) : els.flatten[l * sz + q]? = some p := by
  have hsz : 0 < sz := by
    rcases Nat.eq_zero_or_pos sz with h0 | h0
    · exfalso
      have := flatten_length (els := (els.take h).drop l) (sz := sz) (fun e he => hs e (List.mem_of_mem_take (List.mem_of_mem_drop he)))
      rw [h0, Nat.mul_zero] at this
      have := (List.getElem?_eq_some_iff.1 hq).1
      omega
    · exact h0
  have hlen := (List.getElem?_eq_some_iff.1 hq).1
  rw [flatten_length (sz := sz) (fun e he => hs e (List.mem_of_mem_take (List.mem_of_mem_drop he)))] at hlen
  have hi : q / sz < ((els.take h).drop l).length := by rw [Nat.div_lt_iff_lt_mul hsz]; exact hlen
  have hc : ((els.take h).drop l)[q / sz]? = some ((els.take h).drop l)[q / sz] := List.getElem?_eq_getElem hi
  have hcl : ((els.take h).drop l)[q / sz].length = sz := hs _ (List.mem_of_mem_take (List.mem_of_mem_drop (List.getElem_mem hi)))
  have hm : q % sz < ((els.take h).drop l)[q / sz].length := by rw [hcl]; exact Nat.mod_lt _ hsz
  have h1 := flatten_at (sz := sz) (fun e he => hs e (List.mem_of_mem_take (List.mem_of_mem_drop he))) hc (q % sz) _ (List.getElem?_eq_getElem hm)
  rw [Nat.mul_comm, Nat.div_add_mod] at h1
  rw [hq] at h1
  have h2 : els[l + q / sz]? = some ((els.take h).drop l)[q / sz] := by
    rw [List.getElem?_drop, List.getElem?_take] at hc
    split at hc
    · exact hc
    · cases hc
  have h3 := flatten_at hs h2 (q % sz) _ (List.getElem?_eq_getElem hm)
  rw [Nat.add_mul, Nat.add_assoc, Nat.mul_comm (q / sz) sz, Nat.div_add_mod] at h3
  rw [h3, h1]
def bnd (x : Option PV) (y d : Nat) : Option Nat := match x with
  | some (.int _ n) => if 0 ≤ n ∧ n ≤ (y : Int) then some n.toNat else none
  | some _ => none
  | none => some d
theorem op_slice (h : HR w M0 σ H) {t : TypeId} {v : Value} {p r : PV} {lo hi : Option Value} {plo phi : Option PV} (hv : VV w M0 σ H v p)
    (hlo : ∀ x, lo = some x → ∃ y, plo = some y ∧ VV w M0 σ H x y) (hlo' : lo = none → plo = none) (hhi : ∀ x, hi = some x → ∃ y, phi = some y ∧ VV w M0 σ H x y) (hhi' : hi = none → phi = none)
    (he : evSlice P t p plo phi = some r) : OpOk P w M0 σ H m (do pure (.value (← Instr.sliceAt t v lo hi none))) r .nop := by
  unfold evSlice at he
  split at he
  · rename_i e hu
    split at he
    · rename_i hie
      obtain ⟨i, hi'⟩ := Option.isSome_iff_exists.1 hie
      split at he
      · rename_i els
        split at he
        · rename_i hN hhN
          split at he
          · rename_i lN hlN
            split at he
            case isFalse => cases he
            rename_i hstr
            cases he
            obtain ⟨A, cap, hvv, hcap⟩ : ∃ A cap, v = .slice A els.length cap ∧ els.length ≤ cap := by
              rcases sl_cases hv with ⟨rfl, A, cap, rfl⟩ | ⟨b, o, sz, cap, f, rfl, hc, _⟩
              · exact ⟨A, cap, rfl, Nat.zero_le _⟩
              · exact ⟨_, cap, rfl, hc⟩
            have hbd : ∀ (x : Value) (y : Nat) (c : BoundsCode) (pn : PV) (N : Nat), VV w M0 σ H x pn → (match pn with | .int _ n => (if 0 ≤ n ∧ n ≤ (y : Int) then some n.toNat else none) | _ => none) = some N → ∀ y' : Nat, y ≤ y' → (Instr.sliceBound x y' c).run P w = .ok N w ∧ N ≤ y := by
              intro x y c pn N hx hN y' hy
              cases pn with
              | int k n =>
                cases hx
                simp only at hN
                split at hN
                · rename_i hc
                  cases hN
                  refine ⟨?_, by omega⟩
                  unfold Instr.sliceBound
                  simp only [asIntOf, Sem.run_bind, Sem.run_pure, Result.andThen_ok]
                  rw [if_pos ⟨hc.1, by omega⟩]; rfl
                · cases hN
              | _ => simp at hN
            have hH : ∃ S : Sem Nat, (match hi with | some v => Instr.sliceBound v cap (if true then .sliceAcap else .sliceAlen) | none => pure els.length) = S ∧ S.run P w = .ok hN w ∧ hN ≤ els.length := by
              refine ⟨_, rfl, ?_⟩
              cases hi with
              | none => rw [hhi' rfl] at hhN; cases hhN; exact ⟨rfl, Nat.le_refl _⟩
              | some x =>
                obtain ⟨y, rfl, hy⟩ := hhi x rfl
                refine hbd x els.length _ y hN hy ?_ cap hcap
                cases y <;> simp_all
            have hL : ∃ S : Sem Nat, (match lo with | some v => Instr.sliceBound v hN (if (none : Option Value).isSome then .slice3C else .sliceB) | none => pure 0) = S ∧ S.run P w = .ok lN w ∧ lN ≤ hN := by
              refine ⟨_, rfl, ?_⟩
              cases lo with
              | none => rw [hlo' rfl] at hlN; cases hlN; exact ⟨rfl, Nat.zero_le _⟩
              | some x =>
                obtain ⟨y, rfl, hy⟩ := hlo x rfl
                refine hbd x hN _ y lN hy ?_ hN (Nat.le_refl _)
                cases y <;> simp_all
            obtain ⟨SH, eH, rH, bH⟩ := hH
            obtain ⟨SL, eL, rL, bL⟩ := hL
            have hrun : (Instr.sliceAt t v lo hi none).run P w = .ok (.slice (if cap = lN then A else A.map (·.add (lN * P.cellsOf e))) (hN - lN) (cap - lN)) w := by
              have hb : (Instr.sliceBounds true els.length cap lo hi none).run P w = .ok (lN, hN, cap) w := by
                unfold Instr.sliceBounds
                cases lo with
                | none => cases hi with
                  | none => simp only [Sem.run_bind, Sem.run_pure, Result.andThen_ok] at eH eL ⊢; subst eH; subst eL; simp only [Sem.run_pure, Result.ok.injEq, and_true] at rH rL; subst rH; subst rL; rfl
                  | some _ => simp only [Sem.run_bind, Sem.run_pure, Result.andThen_ok] at eH eL ⊢; subst eH; subst eL; simp only [Sem.run_pure, Result.ok.injEq, and_true] at rL; subst rL; simp only [if_true] at rH ⊢; rw [rH]; rfl
                | some _ => cases hi with
                  | none => simp only [Sem.run_bind, Sem.run_pure, Result.andThen_ok] at eH eL ⊢; subst eH; subst eL; simp only [Sem.run_pure, Result.ok.injEq, and_true] at rH; subst rH; simp only [Option.isSome_none, Bool.false_eq_true, if_false] at rL ⊢; rw [rL]; rfl
                  | some _ => simp only [Sem.run_bind, Sem.run_pure, Result.andThen_ok] at eH eL ⊢; subst eH; subst eL; simp only [if_true, Option.isSome_none, Bool.false_eq_true, if_false] at rH rL ⊢; rw [rH]; simp only [Result.andThen_ok]; rw [rL]; rfl
              rw [hvv]
              unfold Instr.sliceAt
              rw [Sem.run_bind, run_underlying hu]
              simp only [Result.andThen_ok]
              unfold Instr.slice
              rw [Sem.run_bind, run_underlying hu]
              simp only [Result.andThen_ok, Sem.run_bind, hb, run_sizeOf w hi', Sem.run_pure]
            refine opok_keep h (run_v hrun) ?_
            by_cases hemp : hN ≤ lN
            · have : (els.take hN).drop lN = [] := by rw [List.drop_eq_nil_iff, List.length_take]; omega
              rw [this, show hN - lN = 0 by omega]
              exact .sl0 _ _
            · rcases sl_cases hv with ⟨rfl, _⟩ | ⟨b, o, sz, cap', f, hvv', hc, hs, hcell, hh⟩
              · simp at bH; omega
              · rw [hvv] at hvv'
                injection hvv' with e1 _ e3
                subst e1; subst e3
                have hlt : lN < els.length := by omega
                have hsz : P.cellsOf e = sz := by
                  rw [List.getElem?_eq_getElem hlt] at hstr
                  rw [← hs _ (List.getElem_mem hlt)]
                  simpa using (beq_iff_eq.1 hstr).symm
                rw [if_neg (by omega), hsz]
                have hl : hN - lN = ((els.take hN).drop lN).length := by rw [List.length_drop, List.length_take]; omega
                rw [hl]
                simp only [Option.map_some, Addr.add_lit]
                refine .sl b (o + lN * sz) sz (cap - lN) _ (by rw [← hl]; omega) (fun e he => hs e (List.mem_of_mem_take (List.mem_of_mem_drop he))) (fun q => f (lN * sz + q)) (fun q p hq => ?_) (fun q p hq => ?_)
                · have := hcell _ p (sub_get hs lN hN bH hq)
                  rwa [← Nat.add_assoc] at this
                · exact hh _ p (sub_get hs lN hN bH hq)
          · cases he
        · cases he
      · cases he
    · cases he
  · cases he
end
end Go.Proofs.Yteibeoipnjhicaa
