import Derived.Test.YteibeoipnjhicaaEvc
namespace Go.Proofs.Yteibeoipnjhicaa
open Go Go.RowKit
set_option linter.unusedVariables false
set_option linter.unusedSimpArgs false
/-! The parts of an operation, in a world. -/
theorem one_of_cells {w M σ L} {v : Value} {p : PV} {l : List PV} (h : VR w M σ L v p) (hc : p.cells? = some l) : CR w M σ L v.cells.toList l := by
  have single : ∀ {v : Value} {p : PV}, VR w M σ L v p → v.oneCell' = true → (∀ cs, v ≠ .agg cs) → CR w M σ L v.cells.toList [p] := by
    intro v p h h1 h2
    have : v.cells = #[v] := by cases v <;> first | rfl | exact absurd rfl (h2 _)
    rw [this]
    refine ⟨rfl, fun u hu => ?_, fun i u q hu hq => ?_⟩
    · simp at hu; subst hu; exact h1
    · cases i with
      | zero => simp at hu hq; subst hu; subst hq; exact h
      | succ i => simp at hu
  cases h with
  | agg cs l' hl h1 h => simp only [PV.cells?, Option.some.injEq] at hc; subst hc; exact ⟨by simpa [Value.cells] using hl, by simpa [Value.cells] using h1, by simpa [Value.cells] using h⟩
  | any => cases hc
  | undef => cases hc
  | nilsl => cases hc
  | tup => cases hc
  | gr => cases hc
  | nilif => cases hc; exact single .nilif rfl (by simp)
  | nilfn => cases hc; exact single .nilfn rfl (by simp)
  | bool b => cases hc; exact single (.bool b) rfl (by simp)
  | int k n => cases hc; exact single (.int k n) rfl (by simp)
  | str s => cases hc; exact single (.str s) rfl (by simp)
  | sl0 A cap => cases hc; exact single (.sl0 A cap) rfl (by simp)
  | sl b o sz cap els h1 h2 f h3 h4 => cases hc; exact single (.sl b o sz cap els h1 h2 f h3 h4) rfl (by simp)
  | ref b o l' f h1 h2 => cases hc; exact single (.ref b o l' f h1 h2) rfl (by simp)
  | ptr id off h1 h2 => cases hc; exact single (.ptr id off h1 h2) rfl (by simp)
  | fn f fs cs l1 l2 h1 h2 h3 h4 => cases hc; exact single (.fn f fs cs l1 l2 h1 h2 h3 h4) rfl (by simp)
  | ifc t v p h => cases hc; exact single (.ifc t v p h) rfl (by simp)
  | bs id n e sz h1 h2 h3 h4 h5 => cases hc; exact single (.bs id n e sz h1 h2 h3 h4 h5) rfl (by simp)
  | bz => cases hc; exact single .bz rfl (by simp)
  | c0 A => cases hc; exact single (.c0 A) rfl (by simp)
theorem vr_cv0 {w M σ L} (v : Value) : VR w M σ L v (cv0 v) := by
  unfold cv0
  split
  · exact .bool _
  · exact .int _ _
  · exact .str _
  · exact .sl0 _ _
  · exact .nilif
  · exact .nilfn
  · exact .any _
theorem cr_cv0 {w M σ L} (cs : List Value) (h : cs.all (·.oneCell') = true) : CR w M σ L cs (cs.map cv0) :=
  ⟨by simp, fun v hv => List.all_eq_true.1 h v hv, fun i v p hv hp => by
    rw [List.getElem?_map, hv] at hp; simp at hp; subst hp; exact vr_cv0 v⟩
theorem vr_agg {w M σ L} {cs : Array Value} {l : List PV} (h : CR w M σ L cs.toList l) : VR w M σ L (.agg cs) (.agg l) := by
  have := VR.agg cs.toList l h.len h.one h.rel
  simpa using this
theorem vr_cv {w M σ L} (v : Value) : VR w M σ L v (cv v) := by
  unfold cv
  split
  · split
    · rename_i h; exact vr_agg (cr_cv0 _ h)
    · exact .any _
  · exact .bool _
  · exact .int _ _
  · exact .str _
  · exact .nilsl _
  · exact .nilif
  · exact .nilfn
  · exact .any _
theorem CR.cut {w M σ L cs l} (h : CR w M σ L cs l) (off n : Nat) : CR w M σ L ((cs.drop off).take n) ((l.drop off).take n) := by
  refine ⟨by simp [h.len], fun v hv => h.one v (List.mem_of_mem_drop (List.mem_of_mem_take hv)), fun i v p hv hp => ?_⟩
  rw [List.getElem?_take] at hv hp
  split at hv
  · rename_i hi
    rw [if_pos hi] at hp
    rw [List.getElem?_drop] at hv hp
    exact h.rel _ v p hv hp
  · cases hv
theorem CR.get {w M σ L cs l} (h : CR w M σ L cs l) {i : Nat} {p : PV} (hp : l[i]? = some p) : ∃ v, cs[i]? = some v ∧ VR w M σ L v p ∧ v.oneCell' = true := by
  have hi : i < cs.length := by rw [h.len]; exact (List.getElem?_eq_some_iff.1 hp).1
  exact ⟨cs[i], List.getElem?_eq_getElem hi, h.rel i _ p (List.getElem?_eq_getElem hi) hp, h.one _ (List.getElem_mem hi)⟩
section
variable {P : Program} {w : World}
theorem info_of {t : TypeId} {b : Bool} (h : aggT P t = some b) : ∃ i, P.info? t = some i ∧ P.cellsOf t = i.size ∧ ∃ d, P.underlying t = some d ∧ (match d with | .struct _ => true | .array _ _ => true | _ => false) = b := by
  unfold aggT at h
  rw [Option.map_eq_some_iff] at h
  obtain ⟨d, hd, hb⟩ := h
  obtain ⟨i, hi⟩ := info_of_underlying hd
  exact ⟨i, hi, by simp [Program.cellsOf, hi], d, hd, hb⟩
theorem run_isAgg' {t : TypeId} {b : Bool} (h : aggT P t = some b) (w : World) : (isAgg t).run P w = .ok b w := by
  obtain ⟨i, hi, _, d, hd, hb⟩ := info_of h
  unfold isAgg
  rw [Sem.run_bind, run_underlying hd]
  subst hb
  cases d <;> rfl
theorem part_sound {M σ L} {cs : List Value} {l : List PV} (h : CR w M σ L cs l) {t : TypeId} {off : Nat} {r : PV} (hc : cut P t l off = some r) : ∃ v, (part t cs.toArray off).run P w = .ok v w ∧ VR w M σ L v r ∧ (r.cells?.isSome = true → True) := by
  unfold Go.Proofs.Yteibeoipnjhicaa.cut at hc
  split at hc
  · rename_i ha
    split at hc
    · rename_i hlen
      cases hc
      obtain ⟨i, hi, hs, _⟩ := info_of ha
      refine ⟨.agg (cs.toArray.extract off (off + P.cellsOf t)), ?_, ?_, fun _ => trivial⟩
      · unfold part
        rw [Sem.run_bind, run_isAgg' ha]
        simp only [Result.andThen_ok, if_true, Sem.run_bind, run_sizeOf w hi]
        rfl
      · refine vr_agg ?_
        have : (cs.toArray.extract off (off + P.cellsOf t)).toList = (cs.drop off).take (P.cellsOf t) := by simp [List.extract]
        rw [this]; exact h.cut _ _
    · cases hc
  · rename_i ha
    obtain ⟨v, hv, hr, _⟩ := h.get hc
    refine ⟨v, ?_, hr, fun _ => trivial⟩
    unfold part
    rw [Sem.run_bind, run_isAgg' ha]
    simp [hv]
  · cases hc
theorem load_sound {M σ L} {b o : Nat} {cs : List Value} {l : List PV} (hrd : ∀ j v, cs[j]? = some v → w.cell? ⟨b, o + j, none⟩ = some v) (h : CR w M σ L cs l) {t : TypeId} {off : Nat} {r : PV} (hc : cut P t l off = some r) :
    ∃ v, (loadVar t ⟨b, o + off, none⟩).run P w = .ok v w ∧ VR w M σ L v r := by
  unfold Go.Proofs.Yteibeoipnjhicaa.cut at hc
  split at hc
  · rename_i ha
    split at hc
    · rename_i hlen
      cases hc
      obtain ⟨i, hi, hs, _⟩ := info_of ha
      have hl : ((cs.drop off).take (P.cellsOf t)).length = P.cellsOf t := by
        rw [List.length_take, List.length_drop, h.len]; omega
      have hrun := run_loadCells_list (P := P) w ⟨b, o + off, none⟩ ((cs.drop off).take (P.cellsOf t)) (fun j v hv => by
        rw [List.getElem?_take] at hv
        split at hv
        · rw [List.getElem?_drop] at hv
          rw [Addr.add_lit, Nat.add_assoc]
          exact hrd _ v hv
        · cases hv)
      rw [hl] at hrun
      refine ⟨.agg ((cs.drop off).take (P.cellsOf t)).toArray, ?_, ?_⟩
      · unfold loadVar
        rw [Sem.run_bind, run_isAgg' ha]
        simp only [Result.andThen_ok, if_true, Sem.run_bind, run_sizeOf w hi, hrun]
        rfl
      · exact vr_agg (by simpa using h.cut _ _)
    · cases hc
  · rename_i ha
    obtain ⟨v, hv, hr, _⟩ := h.get hc
    refine ⟨v, ?_, hr⟩
    unfold loadVar
    rw [Sem.run_bind, run_isAgg' ha]
    simp only [Result.andThen_ok, Bool.false_eq_true, if_false, run_load, hrd _ v hv]
  · cases hc
theorem foldl_set (cells : List Value) (off : Nat) : ∀ (vs : List Value) (k : Nat), off + k + vs.length ≤ cells.length →
    ((vs.zipIdx k).foldl (fun (cs : Array Value) (x : Value × Nat) => cs.setIfInBounds (off + x.2) x.1) cells.toArray) = (splice cells (off + k) vs).toArray
  | [], k, h => by simp [splice]
  | v :: vs, k, h => by
    simp only [List.zipIdx_cons, List.foldl_cons]
    have h0 : off + k < cells.length := by simp at h; omega
    have ih := foldl_set (cells.set (off + k) v) off vs (k + 1) (by simp at h ⊢; omega)
    have e : cells.toArray.setIfInBounds (off + k) v = (cells.set (off + k) v).toArray := by simp
    rw [e, ih]
    congr 1
    unfold splice
    apply List.ext_getElem?
    intro i
    have h1 : (splice (cells.set (off + k) v) (off + (k + 1)) vs)[i]? = (splice cells (off + k) (v :: vs))[i]? := by
      rw [splice_get _ _ _ (by simp at h ⊢; omega), splice_get _ _ _ (by simpa using h)]
      by_cases c1 : off + (k + 1) ≤ i ∧ i < off + (k + 1) + vs.length
      · rw [if_pos c1, if_pos (by simp; omega)]
        rw [show i - (off + k) = (i - (off + (k + 1))) + 1 by omega, List.getElem?_cons_succ]
      · rw [if_neg c1]
        by_cases c2 : i = off + k
        · subst c2
          rw [if_pos (by simp)]
          simp [h0]
        · rw [if_neg (by simp; omega), List.getElem?_set_ne (Ne.symm c2)]
    exact h1
theorem fill_sound {M σ L} {place place' : Nat → Option (Nat × Nat)} (hpl : ∀ i x, place i = some x → place' i = some x) : ∀ (vs : List (Nat × Value)) (ps : List (Nat × PV)) (cs : List Value) (l l' : List PV),
    vs.length = ps.length → (∀ (i : Nat) (x : Nat × Value) (y : Nat × PV), vs[i]? = some x → ps[i]? = some y → x.1 = y.1 ∧ VR w M σ L x.2 y.2) → CR w M σ L cs l → pfill place l ps = some l' → ∃ cs', Instr.fill place' cs.toArray vs = some cs'.toArray ∧ CR w M σ L cs' l'
  | [], [], cs, l, l', _, _, h, hf => by simp only [pfill, Option.some.injEq] at hf; subst hf; exact ⟨cs, rfl, h⟩
  | [], _ :: _, _, _, _, hl, _, _, _ => by simp at hl
  | _ :: _, [], _, _, _, hl, _, _, _ => by simp at hl
  | (i, v) :: vs, (j, p) :: ps, cs, l, l', hl, hr, h, hf => by
    obtain ⟨e1, hv⟩ := hr 0 (i, v) (j, p) rfl rfl
    simp only at e1 hv
    subst e1
    simp only [pfill] at hf
    split at hf
    · rename_i off size hp
      split at hf
      · rename_i lc hlc
        split at hf
        · rename_i hcond
          have hcr := one_of_cells hv hlc
          have hsz : v.cells.size = size := by rw [← Array.length_toList, hcr.len]; exact hcond.1
          have hfit : off + v.cells.toList.length ≤ cs.length := by rw [hcr.len, h.len]; exact hcond.2
          obtain ⟨cs', h1, h2⟩ := fill_sound hpl vs ps (splice cs off v.cells.toList) (splice l off lc) l' (by simpa using hl) (fun i x y hx hy => hr (i + 1) x y (by simpa using hx) (by simpa using hy)) (h.splice hcr hcond.2) hf
          refine ⟨cs', ?_, h2⟩
          simp only [Instr.fill, hpl _ _ hp]
          have hsz' : off + v.cells.size ≤ cs.length := by rw [← Array.length_toList]; exact hfit
          rw [if_neg (by simp only [List.size_toArray, Bool.or_eq_true, decide_eq_true_eq, not_or, Decidable.not_not]; exact ⟨hsz, by omega⟩)]
          have := foldl_set cs off v.cells.toList 0 (by simpa using hfit)
          simp only [Nat.add_zero] at this
          rw [← h1, ← this]
          congr 1
          rw [← Array.foldl_toList]
          simp
        · cases hf
      · cases hf
    · cases hf
end
end Go.Proofs.Yteibeoipnjhicaa
