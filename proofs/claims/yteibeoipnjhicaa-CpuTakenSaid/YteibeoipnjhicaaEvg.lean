import Derived.Test.YteibeoipnjhicaaEvf
import Derived.Great.BuildSlice
import Derived.Laws.MakeOwn
namespace Go.Proofs.Yteibeoipnjhicaa
open Go Go.RowKit
set_option linter.unusedVariables false
set_option linter.unusedSimpArgs false
section
variable {P : Program} {w : World} {M0 : Nat → Nat → Prop} {σ : Nat → Gh} {H : Heap} {m : Nat}
theorem gset_lv {H : Heap} {m : Nat} (x : HE) : LV (hset H m (some x)) m := by unfold LV; rw [hset_same]; simp
theorem vr_new (x : HE) (gh : Gh) (h0 : gh.len = 0) : VV w M0 (gset σ m gh) (hset H m (some x)) (.pointer (some ⟨gh.blk, 0, none⟩)) (.ptr m 0) := by
  have := VR.ptr (w := w) (M := MU M0 (gset σ m gh) (hset H m (some x))) (σ := gset σ m gh) (L := LV (hset H m (some x))) m 0 (gset_lv x) (by rw [gset_same]; exact h0)
  rwa [gset_same] at this
theorem op_new (h : HR w M0 σ H) (hm : H m = none) {S : Sem Value} {c : Array Value} {t : TypeId} {l : List PV} (hr : S.run P w = .ok (.pointer (some ⟨w.heap.size, 0, none⟩)) (w.alloc (.cells c t))) (hc : CR w (MU M0 σ H) σ (LV H) c.toList l) :
    OpOk P w M0 σ H m (do pure (.value (← S))) (.ptr m 0) (.new l) := by
  refine opok_of (e := .new l) (run_v hr) (.inl rfl) ?_ (h.new hm c t l hc 1 c.size (by rw [Nat.one_mul]) (by simp [maxLen]))
  exact vr_new (σ := σ) (H := H) (.box l) ⟨w.heap.size, 1, 0, t, c.size⟩ rfl
theorem op_alloc (h : HR w M0 σ H) (hm : H m = none) {t : TypeId} {l : List PV} (hz : zeros P t = some l) : OpOk P w M0 σ H m (do pure (.value (← Instr.alloc t true (.tuple #[])))) (.ptr m 0) (.new l) := by
  obtain ⟨z, h1, h2⟩ := zeros_ok (P := P) (w := w) hz
  refine op_new h hm (c := z.cells) (t := t) ?_ h2
  unfold Instr.alloc
  simp [Sem.run_bind, h1, newVar, newRow]
theorem op_box (h : HR w M0 σ H) (hm : H m = none) {t : TypeId} {v : Value} {p : PV} {l : List PV} (hv : VV w M0 σ H v p) (hc : p.cells? = some l) : OpOk P w M0 σ H m (do pure (.value (← Instr.box t v))) (.ptr m 0) (.new l) := by
  refine op_new h hm (c := v.cells) (t := t) ?_ (one_of_cells hv hc)
  simp [Instr.box, newVar, newRow]
theorem parts_rel {ev : Operand → Value} {ρ : Operand → PV} {parts : Array (Nat × Operand)} (hs : ∀ x ∈ (parts.toList.map (·.2)).toArray, VV w M0 σ H (ev x) (ρ x)) :
    (parts.map fun (i, x) => (i, ev x)).toList.length = (parts.toList.map fun (i, x) => (i, ρ x)).length ∧
    ∀ (i : Nat) (x : Nat × Value) (y : Nat × PV), (parts.map fun (i, x) => (i, ev x)).toList[i]? = some x → (parts.toList.map fun (i, x) => (i, ρ x))[i]? = some y → x.1 = y.1 ∧ VV w M0 σ H x.2 y.2 := by
  obtain ⟨parts⟩ := parts
  refine ⟨by simp, fun i x y hx hy => ?_⟩
  simp only [List.map_toArray, List.getElem?_map] at hx hy
  cases hp : parts[i]? with
  | none => rw [hp] at hy; cases hy
  | some q =>
    rw [hp] at hx hy
    simp only [Option.map_some, Option.some.injEq] at hx hy
    subst hx; subst hy
    exact ⟨rfl, hs q.2 (by simp only [List.mem_toArray, List.mem_map]; exact ⟨q, List.mem_of_getElem? hp, rfl⟩)⟩
theorem op_build (h : HR w M0 σ H) {ev : Operand → Value} {ρ : Operand → PV} {t : TypeId} {parts : Array (Nat × Operand)} {r : PV} (hs : ∀ x ∈ (parts.toList.map (·.2)).toArray, VV w M0 σ H (ev x) (ρ x))
    (he : evBuild P t (parts.toList.map fun (i, x) => (i, ρ x)) = some r) : OpOk P w M0 σ H m (do pure (.value (← Instr.build t (parts.map fun (i, x) => (i, ev x))))) r .nop := by
  obtain ⟨e1, e2⟩ := parts_rel hs
  unfold evBuild at he
  split at he
  · rename_i zl hz
    have hzc : ∃ it z, P.info? t = some it ∧ it.zero = some z ∧ CR w (MU M0 σ H) σ (LV H) z.cells.toList zl := by
      unfold zeros at hz
      split at hz
      · rename_i it hit
        split at hz
        · rename_i z hzz
          split at hz
          · rename_i ho
            cases hz
            exact ⟨it, z, hit, hzz, cr_cv0 _ ho⟩
          · cases hz
        · cases hz
      · cases hz
    obtain ⟨it, z, hit, hzz, hcz⟩ := hzc
    split at he
    · rename_i fs hu
      split at he
      · rename_i hall
        rw [Option.map_eq_some_iff] at he
        obtain ⟨l, hl, rfl⟩ := he
        have hpl : fs.toList.mapM (fun f => (P.info? f.type).map fun i => (f.offset, i.size)) = some (fs.toList.map fun f => (f.offset, P.cellsOf f.type)) := by
          have : ∀ l : List Field, (∀ f ∈ l, (P.info? f.type).isSome = true) → l.mapM (fun f => (P.info? f.type).map fun i => (f.offset, i.size)) = some (l.map fun f => (f.offset, P.cellsOf f.type)) := by
            intro l
            induction l with
            | nil => intro _; rfl
            | cons f l ih =>
              intro hf
              obtain ⟨i, hi⟩ := Option.isSome_iff_exists.1 (hf f (by simp))
              rw [List.mapM_cons, ih (fun g hg => hf g (by simp [hg]))]
              simp [hi, Program.cellsOf]
          exact this _ fun f hf => Array.all_eq_true_iff_forall_mem.1 hall f (Array.mem_toList_iff.1 hf)
        obtain ⟨cs', h1, h2⟩ := fill_sound (place' := fun i => (fs.toList.map fun f => (f.offset, P.cellsOf f.type)).toArray[i]?) (fun i x hx => by simpa using hx) _ _ z.cells.toList zl l e1 e2 hcz hl
        refine opok_keep h (run_v (run_build w t _ cs'.toArray ?_)) (vr_agg (by simpa using h2))
        unfold Program.built
        simp only [hit, hu, hzz, hpl]
        simpa using h1
      · cases he
    · rename_i n e hu
      split at he
      · rename_i hie
        obtain ⟨ie, hie⟩ := Option.isSome_iff_exists.1 hie
        rw [Option.map_eq_some_iff] at he
        obtain ⟨l, hl, rfl⟩ := he
        obtain ⟨cs', h1, h2⟩ := fill_sound (place' := fun i => some (i * ie.size, ie.size)) (fun i x hx => by simpa [Program.cellsOf, hie] using hx) _ _ z.cells.toList zl l e1 e2 hcz hl
        refine opok_keep h (run_v (run_build w t _ cs'.toArray ?_)) (vr_agg (by simpa using h2))
        unfold Program.built
        simp only [hit, hu, hzz, hie]
        simpa using h1
      · cases he
    · cases he
  · cases he
theorem chunks_ok (sz : Nat) : ∀ (n : Nat) (l : List PV), l.length = n * sz → (chunks sz n l).length = n ∧ (chunks sz n l).flatten = l ∧ ∀ e ∈ chunks sz n l, e.length = sz
  | 0, l, h => by
    have : l = [] := List.eq_nil_of_length_eq_zero (by simpa using h)
    subst this; simp [chunks]
  | n + 1, l, h => by
    rw [Nat.succ_mul] at h
    obtain ⟨h1, h2, h3⟩ := chunks_ok sz n (l.drop sz) (by rw [List.length_drop]; omega)
    refine ⟨by simp [chunks, h1], by simp only [chunks, List.flatten_cons, h2, List.take_append_drop], fun e he => ?_⟩
    simp only [chunks, List.mem_cons] at he
    rcases he with rfl | he
    · rw [List.length_take]; omega
    · exact h3 e he
theorem repl_get {α : Type} (z : List α) (n q : Nat) (hq : q < n * z.length) : (List.replicate n z).flatten[q]? = z[q % z.length]? := by
  induction n generalizing q with
  | zero => simp at hq
  | succ n ih =>
    rw [List.replicate_succ, List.flatten_cons]
    by_cases h : q < z.length
    · rw [List.getElem?_append_left h, Nat.mod_eq_of_lt h]
    · rw [List.getElem?_append_right (by omega), ih _ (by rw [Nat.succ_mul] at hq; omega)]
      congr 1
      conv => rhs; rw [← Nat.sub_add_cancel (Nat.le_of_not_lt h), Nat.add_mod_right]
/-- A new block that is nobody's to write to. -/
theorem op_fresh (h : HR w M0 σ H) {S : Sem Value} {cs : List Value} {t : TypeId} {els : List (List PV)} {sz : Nat} (hr : S.run P w = .ok (.slice (some ⟨w.heap.size, 0, none⟩) els.length els.length) (w.alloc (.cells cs.toArray t))) (hs : ∀ e ∈ els, e.length = sz)
    (hc : CR w (MU M0 σ H) σ (LV H) cs els.flatten) : OpOk P w M0 σ H m (do pure (.value (← S))) (.sl els) .nop := by
  have hb := below_new w (.cells cs.toArray t)
  have E : Ext w (MU M0 σ H) σ (LV H) (w.alloc (.cells cs.toArray t)) (MU M0 σ H) σ (LV H) := ext_all hb.block
  refine opok_of (e := .nop) (run_v hr) (.inl rfl) ?_ ⟨h.all hb.size hb.block, Fr.all hb⟩
  refine .sl _ 0 sz _ els (Nat.le_refl _) hs (fun q => cs.getD q undef) (fun q p hq => ?_) (fun q p hq => ?_)
  all_goals
    obtain ⟨v, hv, hr, h1⟩ := hc.get hq
    have hd : cs.getD q undef = v := by rw [List.getD_eq_getElem?_getD, hv]; rfl
    rw [hd]
  · refine ⟨?_, fun hm => by have := mu_lt h hm; omega, h1⟩
    rw [Nat.zero_add, cell_of_row _ w.heap.size q cs.toArray t (0, 0) (heap_alloc_new w _)]
    simpa using hv
  · exact hr.mono E
theorem op_buildSlice (h : HR w M0 σ H) {ev : Operand → Value} {ρ : Operand → PV} {t : TypeId} {n : Nat} {parts : Array (Nat × Operand)} {r : PV} (hs : ∀ x ∈ (parts.toList.map (·.2)).toArray, VV w M0 σ H (ev x) (ρ x))
    (he : evBuildSlice P t n (parts.toList.map fun (i, x) => (i, ρ x)) = some r) : OpOk P w M0 σ H m (do pure (.value (← Instr.buildSlice t n (parts.map fun (i, x) => (i, ev x))))) r .nop := by
  obtain ⟨e1, e2⟩ := parts_rel hs
  unfold evBuildSlice at he
  split at he
  · rename_i e hu
    split at he
    · split at he
      · rename_i hnil
        split at he
        · rename_i hie
          cases he
          obtain ⟨ie, hie⟩ := Option.isSome_iff_exists.1 hie
          have hp0 : parts = #[] := by
            obtain ⟨parts⟩ := parts
            cases parts with
            | nil => rfl
            | cons a b => simp at hnil
          subst hp0
          have hb := below_new w (.cells #[] e)
          refine opok_of (e := .nop) (n := .value (.slice (some ⟨w.heap.size, 0, none⟩) 0 0)) (w' := w.alloc (.cells #[] e)) (σ' := σ) (run_v ?_) (.inl rfl) (.nilsl _) ⟨h.all hb.size hb.block, Fr.all hb⟩
          simp [Instr.buildSlice, run_underlying hu, sizeOf, typeInfo, hie, newRow, Instr.fill, show Array.range 0 = #[] from rfl]
        · cases he
      · cases he
    · rename_i n
      split at he
      · rename_i sz by_ zl hei hzl
        split at he
        · rename_i hsm
          rw [Option.map_eq_some_iff] at he
          obtain ⟨l, hl, rfl⟩ := he
          obtain ⟨ie, z, hie, hz, hsz, _, hzs, hpos⟩ := eInfo_ok hei
          have hcz : CR w (MU M0 σ H) σ (LV H) z.cells.toList zl := by
            unfold zeros at hzl
            simp only [hie, hz] at hzl
            split at hzl
            · rename_i ho; cases hzl; exact cr_cv0 _ ho
            · cases hzl
          have hzl' : zl.length = sz := by rw [← hcz.len, Array.length_toList, hzs]
          have hc0 : CR w (MU M0 σ H) σ (LV H) ((List.range ((n + 1) * sz)).map fun q => z.cells.toList.getD (q % sz) undef) (List.replicate (n + 1) zl).flatten := by
            have hl1 : (List.replicate (n + 1) zl).flatten.length = (n + 1) * sz := by
              rw [flatten_length (sz := sz) (fun e he => by rw [List.eq_of_mem_replicate he]; exact hzl')]; simp
            refine ⟨by rw [hl1]; simp, fun v hv => ?_, fun i v p hv hp => ?_⟩
            · rw [List.mem_map] at hv
              obtain ⟨q, _, rfl⟩ := hv
              have hq : q % sz < z.cells.toList.length := by rw [Array.length_toList, hzs]; exact Nat.mod_lt _ hpos
              rw [List.getD_eq_getElem?_getD, List.getElem?_eq_getElem hq]
              exact hcz.one _ (List.getElem_mem hq)
            · have hi : i < (n + 1) * sz := by rw [← hl1]; exact (List.getElem?_eq_some_iff.1 hp).1
              rw [List.getElem?_map, List.getElem?_range hi] at hv
              simp at hv
              rw [repl_get zl (n + 1) i (by rw [hzl']; exact hi), hzl'] at hp
              obtain ⟨v', hv', hr', _⟩ := hcz.get hp
              rw [← hv, show z.cells[i % sz]?.getD undef = v' by rw [← Array.getElem?_toList, hv']; rfl]
              exact hr'
          obtain ⟨cs', h1, h2⟩ := fill_sound (place' := fun i => some (i * ie.size, ie.size)) (fun i x hx => by rw [hsz]; exact hx) _ _ _ _ l e1 e2 hc0 hl
          have hll : l.length = (n + 1) * sz := by
            have : ∀ (ps : List (Nat × PV)) (l0 l1 : List PV), pfill (fun i => some (i * sz, sz)) l0 ps = some l1 → l1.length = l0.length := by
              intro ps
              induction ps with
              | nil => intro l0 l1 hq; simp [pfill] at hq; rw [hq]
              | cons x ps ih =>
                intro l0 l1 hq
                obtain ⟨i, p⟩ := x
                simp only [pfill] at hq
                split at hq
                · split at hq
                  · rename_i hc
                    rw [ih _ _ hq, splice_len _ _ _ hc.2]
                  · cases hq
                · cases hq
            rw [this _ _ _ hl, flatten_length (sz := sz) (fun e he => by rw [List.eq_of_mem_replicate he]; exact hzl')]; simp
          obtain ⟨k1, k2, k3⟩ := chunks_ok sz (n + 1) l hll
          refine op_fresh (cs := cs') (t := e) (sz := sz) h ?_ k3 (by rw [k2]; exact h2)
          rw [k1]
          refine run_buildSlice w t e (n + 1) _ cs'.toArray ie z hu hie hz (by rw [hsz]; omega) (by rw [hsz, Nat.succ_mul]; omega) ?_
          rw [← h1]
          congr 1
          apply Array.ext'
          simp only [Array.toList_map, Array.toList_range, hzs, hsz]
          apply List.map_congr_left
          intro q hq
          have hlt : q % sz < z.cells.size := by rw [hzs]; exact Nat.mod_lt _ hpos
          rw [getElem!_pos z.cells _ hlt, List.getD_eq_getElem?_getD, Array.getElem?_toList, Array.getElem?_eq_getElem hlt]; rfl
        · cases he
      · cases he
  · cases he
theorem bs_run (h : HR w M0 σ H) {ev : Operand → Value} {ρ : Operand → PV} {t : TypeId} {n : Nat} {parts : Array (Nat × Operand)} {els : List (List PV)} (hs : ∀ x ∈ (parts.toList.map (·.2)).toArray, VV w M0 σ H (ev x) (ρ x))
    (he : evBuildSlice P t n (parts.toList.map fun (i, x) => (i, ρ x)) = some (.sl els)) : ∃ (cs : List Value) (e : Nat), P.underlying t = some (.slice e) ∧ (Instr.buildSlice t n (parts.map fun (i, x) => (i, ev x))).run P w = .ok (.slice (some ⟨w.heap.size, 0, none⟩) els.length els.length) (w.alloc (.cells cs.toArray e)) ∧ (∀ x ∈ els, x.length = P.cellsOf e) ∧ els.length ≤ maxLen ∧ CR w (MU M0 σ H) σ (LV H) cs els.flatten := by
  obtain ⟨e1, e2⟩ := parts_rel hs
  unfold evBuildSlice at he
  split at he
  · rename_i e hu
    split at he
    · split at he
      · split at he <;> cases he
      · cases he
    · rename_i n
      split at he
      · rename_i sz by_ zl hei hzl
        split at he
        · rename_i hsm
          rw [Option.map_eq_some_iff] at he
          obtain ⟨l, hl, he'⟩ := he
          cases he'
          obtain ⟨ie, z, hie, hz, hsz, _, hzs, hpos⟩ := eInfo_ok hei
          have hcz : CR w (MU M0 σ H) σ (LV H) z.cells.toList zl := by
            unfold zeros at hzl
            simp only [hie, hz] at hzl
            split at hzl
            · rename_i ho; cases hzl; exact cr_cv0 _ ho
            · cases hzl
          have hzl' : zl.length = sz := by rw [← hcz.len, Array.length_toList, hzs]
          have hc0 : CR w (MU M0 σ H) σ (LV H) ((List.range ((n + 1) * sz)).map fun q => z.cells.toList.getD (q % sz) undef) (List.replicate (n + 1) zl).flatten := by
            have hl1 : (List.replicate (n + 1) zl).flatten.length = (n + 1) * sz := by
              rw [flatten_length (sz := sz) (fun e he => by rw [List.eq_of_mem_replicate he]; exact hzl')]; simp
            refine ⟨by rw [hl1]; simp, fun v hv => ?_, fun i v p hv hp => ?_⟩
            · rw [List.mem_map] at hv
              obtain ⟨q, _, rfl⟩ := hv
              have hq : q % sz < z.cells.toList.length := by rw [Array.length_toList, hzs]; exact Nat.mod_lt _ hpos
              rw [List.getD_eq_getElem?_getD, List.getElem?_eq_getElem hq]
              exact hcz.one _ (List.getElem_mem hq)
            · have hi : i < (n + 1) * sz := by rw [← hl1]; exact (List.getElem?_eq_some_iff.1 hp).1
              rw [List.getElem?_map, List.getElem?_range hi] at hv
              simp at hv
              rw [repl_get zl (n + 1) i (by rw [hzl']; exact hi), hzl'] at hp
              obtain ⟨v', hv', hr', _⟩ := hcz.get hp
              rw [← hv, show z.cells[i % sz]?.getD undef = v' by rw [← Array.getElem?_toList, hv']; rfl]
              exact hr'
          obtain ⟨cs', h1, h2⟩ := fill_sound (place' := fun i => some (i * ie.size, ie.size)) (fun i x hx => by rw [hsz]; exact hx) _ _ _ _ l e1 e2 hc0 hl
          have hll : l.length = (n + 1) * sz := by
            have : ∀ (ps : List (Nat × PV)) (l0 l1 : List PV), pfill (fun i => some (i * sz, sz)) l0 ps = some l1 → l1.length = l0.length := by
              intro ps
              induction ps with
              | nil => intro l0 l1 hq; simp [pfill] at hq; rw [hq]
              | cons x ps ih =>
                intro l0 l1 hq
                obtain ⟨i, p⟩ := x
                simp only [pfill] at hq
                split at hq
                · split at hq
                  · rename_i hc
                    rw [ih _ _ hq, splice_len _ _ _ hc.2]
                  · cases hq
                · cases hq
            rw [this _ _ _ hl, flatten_length (sz := sz) (fun e he => by rw [List.eq_of_mem_replicate he]; exact hzl')]; simp
          obtain ⟨k1, k2, k3⟩ := chunks_ok sz (n + 1) l hll
          have hce : P.cellsOf e = sz := by simp [Program.cellsOf, hie, hsz]
          refine ⟨cs', e, hu, ?_, by rw [hce]; exact k3, ?_, by rw [k2]; exact h2⟩
          case refine_2 => rw [k1]; have := Nat.le_mul_of_pos_right (n + 1) hpos; simp only [maxLen]; omega
          rw [k1]
          refine run_buildSlice w t e (n + 1) _ cs'.toArray ie z hu hie hz (by rw [hsz]; omega) (by rw [hsz, Nat.succ_mul]; omega) ?_
          rw [← h1]
          congr 1
          apply Array.ext'
          simp only [Array.toList_map, Array.toList_range, hzs, hsz]
          apply List.map_congr_left
          intro q hq
          have hlt : q % sz < z.cells.size := by rw [hzs]; exact Nat.mod_lt _ hpos
          rw [getElem!_pos z.cells _ hlt, List.getD_eq_getElem?_getD, Array.getElem?_toList, Array.getElem?_eq_getElem hlt]; rfl
        · cases he
      · cases he
  · cases he
theorem op_buildB (h : HR w M0 σ H) (hm : H m = none) {ev : Operand → Value} {ρ : Operand → PV} {t e : TypeId} {n : Nat} {parts : Array (Nat × Operand)} {els : List (List PV)} (hs : ∀ x ∈ (parts.toList.map (·.2)).toArray, VV w M0 σ H (ev x) (ρ x))
    (he : evBuildSlice P t n (parts.toList.map fun (i, x) => (i, ρ x)) = some (.sl els)) (ht : P.underlying t = some (.slice e)) : OpOk P w M0 σ H m (do pure (.value (← Instr.buildSlice t n (parts.map fun (i, x) => (i, ev x))))) (.bs m els.length e (P.cellsOf e)) (.new els.flatten) := by
  obtain ⟨cs, e', ht', hrun, hs', hml, hc⟩ := bs_run h hs he
  obtain rfl : e' = e := by rw [ht] at ht'; cases ht'; rfl
  have hcs : cs.toArray.size = els.length * P.cellsOf e' := by rw [List.size_toArray, hc.len, flatten_length hs']
  refine opok_of (e := .new _) (run_v hrun) (.inl rfl) ?_ (h.new hm cs.toArray e' _ (by simpa using hc) els.length (P.cellsOf e') hcs hml)
  have := VR.bs (w := w.alloc (.cells cs.toArray e')) (M := MU M0 (gset σ m ⟨w.heap.size, els.length, 0, e', P.cellsOf e'⟩) (hset H m (some (.box els.flatten)))) (σ := gset σ m ⟨w.heap.size, els.length, 0, e', P.cellsOf e'⟩) (L := LV (hset H m (some (.box els.flatten)))) m els.length e' (P.cellsOf e') (gset_lv _) (by rw [gset_same]) (by rw [gset_same]; exact Nat.le_refl _) (by rw [gset_same]) (by rw [gset_same])
  rw [gset_same] at this
  exact this
theorem op_make (h : HR w M0 σ H) {t : TypeId} {v u : Value} {p q r : PV} (hv : VV w M0 σ H v p) (hu : VV w M0 σ H u q) (he : evMake P t p q = some r) : OpOk P w M0 σ H m (do pure (.value (← Instr.makeSlice t v u))) r .nop := by
  unfold evMake at he
  split at he
  · rename_i e ht
    split at he
    · rename_i sz by_ zl hei hzl
      split at he
      · rename_i k a
        split at he
        · rename_i k' b
          split at he
          · rename_i hc
            cases he
            obtain ⟨rfl, h0, hby, h63⟩ := hc
            cases hv; cases hu
            obtain ⟨ie, z, hie, hz, hsz, hby', hzs, hpos⟩ := eInfo_ok hei
            obtain ⟨n, rfl⟩ := Int.eq_ofNat_of_zero_le h0
            have hcz : CR w (MU M0 σ H) σ (LV H) z.cells.toList zl := by
              unfold zeros at hzl
              simp only [hie, hz] at hzl
              split at hzl
              · rename_i ho; cases hzl; exact cr_cv0 _ ho
              · cases hzl
            have hzl' : zl.length = sz := by rw [← hcz.len, Array.length_toList, hzs]
            have hc0 : CR w (MU M0 σ H) σ (LV H) ((List.range (n * sz)).map fun q => z.cells.toList.getD (q % sz) undef) (List.replicate n zl).flatten := by
              have hl1 : (List.replicate n zl).flatten.length = n * sz := by
                rw [flatten_length (sz := sz) (fun e he => by rw [List.eq_of_mem_replicate he]; exact hzl')]; simp
              refine ⟨by rw [hl1]; simp, fun v hv => ?_, fun i v p hv hp => ?_⟩
              · rw [List.mem_map] at hv
                obtain ⟨q, _, rfl⟩ := hv
                have hq : q % sz < z.cells.toList.length := by rw [Array.length_toList, hzs]; exact Nat.mod_lt _ hpos
                rw [List.getD_eq_getElem?_getD, List.getElem?_eq_getElem hq]
                exact hcz.one _ (List.getElem_mem hq)
              · have hi : i < n * sz := by rw [← hl1]; exact (List.getElem?_eq_some_iff.1 hp).1
                rw [List.getElem?_map, List.getElem?_range hi] at hv
                simp at hv
                rw [repl_get zl n i (by rw [hzl']; exact hi), hzl'] at hp
                obtain ⟨v', hv', hr', _⟩ := hcz.get hp
                rw [← hv, show z.cells[i % sz]?.getD undef = v' by rw [← Array.getElem?_toList, hv']; rfl]
                exact hr'
            refine op_fresh (t := e) (sz := sz) h ?_ (fun x hx => by rw [List.eq_of_mem_replicate hx]; exact hzl') hc0
            rw [run_make w t e ie z ht hie hz k k' (n : Int) (n : Int) (by omega) (Int.le_refl _) (by rw [hby']; exact hby) h63]
            simp only [Int.toNat_natCast, List.length_replicate]
            congr 3
            apply Array.ext'
            simp only [madeCells, Array.toList_map, Array.toList_range, hzs, hsz]
            apply List.map_congr_left
            intro q hq
            have hlt : q % sz < z.cells.size := by rw [hzs]; exact Nat.mod_lt _ hpos
            rw [getElem!_pos z.cells _ hlt, List.getD_eq_getElem?_getD, Array.getElem?_toList, Array.getElem?_eq_getElem hlt]; rfl
          · cases he
        · cases he
      · cases he
    · cases he
  · cases he
end
end Go.Proofs.Yteibeoipnjhicaa
