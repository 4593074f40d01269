import Derived.Test.YteibeoipnjhicaaEvi
namespace Go.Proofs.Yteibeoipnjhicaa
open Go Go.RowKit
set_option linter.unusedVariables false
set_option linter.unusedSimpArgs false
section
variable {P : Program} {w : World} {M0 : Nat → Nat → Prop} {σ : Nat → Gh} {H : Heap} {m : Nat}
theorem op_val (h : HR w M0 σ H) {S : Sem Next} {r : PV} {v : Value} (hr : S = pure (.value v)) (hv : VV w M0 σ H v r) : OpOk P w M0 σ H m S r .nop := by
  subst hr; exact opok_keep h rfl hv
theorem map_rel {ev : Operand → Value} {ρ : Operand → PV} {xs : Array Operand} (hs : ∀ x ∈ xs, VV w M0 σ H (ev x) (ρ x)) : (xs.map ev).toList.length = (xs.toList.map ρ).length ∧
    ∀ (i : Nat) (v : Value) (p : PV), (xs.map ev).toList[i]? = some v → (xs.toList.map ρ)[i]? = some p → VV w M0 σ H v p := by
  obtain ⟨xs⟩ := xs
  refine ⟨by simp, fun i v p hv hp => ?_⟩
  simp only [List.map_toArray, List.getElem?_map] at hv hp
  cases hx : xs[i]? with
  | none => rw [hx] at hp; cases hp
  | some q =>
    rw [hx] at hv hp
    simp only [Option.map_some, Option.some.injEq] at hv hp
    subst hv; subst hp
    exact hs q (by simp only [List.mem_toArray]; exact List.mem_of_getElem? hx)
set_option maxHeartbeats 2000000 in
theorem op_sound (h : HR w M0 σ H) (hm : H m = none) {ev : Operand → Value} {ρ : Operand → PV} {s : PV → PV} {o : Oper} (hρ : ∀ x ∈ o.op.operands, VV w M0 σ H (ev x) (ρ x)) (hs : ∀ x ∈ o.op.operands, VV w M0 σ H (ev x) (s (ρ x))) {r : PV} {e : Eff}
    (he : evOp P ρ s H m o.op = some (r, e)) : OpOk P w M0 σ H m (execOp ev o) r e := by
  obtain ⟨dst, op, ty, pos, after, guard⟩ := o
  simp only at hρ hs he
  unfold evOp at he
  split at he
  · -- move
    rename_i x
    cases he
    exact op_val h rfl (hρ x (by simp [Op.operands]))
  · rename_i x
    cases he
    exact op_val h rfl (hρ x (by simp [Op.operands]))
  · rename_i c a b
    split at he
    · rename_i t hc
      cases he
      have hc' := hρ c (by simp [Op.operands])
      rw [hc] at hc'
      have ec : ev c = .bool t := by generalize hv : ev c = v at hc'; cases hc'; rfl
      refine op_val h (v := if t then ev a else ev b) ?_ ?_
      · simp only [execOp, ec, asBool, pure_bind]
      · cases t
        · exact hρ b (by simp [Op.operands])
        · exact hρ a (by simp [Op.operands])
    · cases he
  · rename_i t
    split at he
    · rename_i l hz; cases he; exact op_alloc h hm hz
    · cases he
  · rename_i t x
    split at he
    · rename_i l hc; cases he; exact op_box h hm (hs x (by simp [Op.operands])) hc
    · cases he
  · rename_i t parts
    rw [Option.map_eq_some_iff] at he
    obtain ⟨r', hr, e'⟩ := he
    cases e'
    exact op_build h (ρ := fun x => s (ρ x)) (fun x hx => hs x (by simpa [Op.operands] using hx)) hr
  · rename_i t n parts
    rw [Option.map_eq_some_iff] at he
    obtain ⟨r', hr, e'⟩ := he
    cases e'
    exact op_buildSlice h (ρ := fun x => s (ρ x)) (fun x hx => hs x (by simpa [Op.operands] using hx)) hr
  · rename_i t a
    exact op_load h he (hρ a (by simp [Op.operands]))
  · rename_i t a x
    split at he
    · rename_i id off ha
      split at he
      · rename_i l hl
        split at he
        · rename_i c hid
          split at he
          · rename_i hc
            cases he
            have ha' := hρ a (by simp [Op.operands])
            rw [ha] at ha'
            exact op_store h ha' (hs x (by simp [Op.operands])) hl hid hc.1 hc.2.1 hc.2.2
          · cases he
        · cases he
      · cases he
    · cases he
  · rename_i x
    have hx := hρ x (by simp [Op.operands])
    split at he
    · rename_i id off hp
      cases he
      rw [hp] at hx
      generalize hv : ev x = v at hx
      cases hx with
      | ptr _ _ hL h0 => exact op_val h (by simp only [execOp, hv]) (.ptr id off hL h0)
    · rename_i l hp
      cases he
      rw [hp] at hx
      generalize hv : ev x = v at hx
      cases hx with
      | ref b o _ f h1 h2 => exact op_val h (by simp only [execOp, hv]) (.ref b o l f h1 h2)
    · rename_i f a b hp
      cases he
      rw [hp] at hx
      generalize hv : ev x = v at hx
      cases hx with
      | fn _ fs cs l1 l2 h1 h2 h3 h4 => exact op_val h (by simp only [execOp, hv]) (.fn _ fs cs _ _ h1 h2 h3 h4)
    · cases he
  · rename_i bop t x y ty'
    rw [Option.map_eq_some_iff] at he
    obtain ⟨r', hr, e'⟩ := he
    cases e'
    obtain ⟨v, h1, h2⟩ := bin_sound bop t (hρ x (by simp [Op.operands])) (hρ y (by simp [Op.operands])) hr x y
    exact opok_keep h (run_v h1) h2
  · rename_i uop t x
    have hx := hρ x (by simp [Op.operands])
    split at he
    · split at he
      · rename_i b hp
        cases he
        rw [hp] at hx
        generalize hv : ev x = v at hx
        cases hx
        exact op_val h (by simp only [execOp, hv]; rfl) (.bool _)
      · cases he
    · split at he
      · rename_i k n hp
        cases he
        rw [hp] at hx
        generalize hv : ev x = v at hx
        cases hx
        exact op_val h (by simp only [execOp, hv]; rfl) (.int _ _)
      · cases he
    · split at he
      · rename_i k n hp
        rw [hp] at hx
        simp only [eInt, Option.map_some, Option.some.injEq, Prod.mk.injEq] at he
        obtain ⟨rfl, rfl⟩ := he
        generalize hv : ev x = v at hx
        cases hx
        exact op_val h (by simp only [execOp, hv]; rfl) (.int _ _)
      · cases he
    · cases he
  · rename_i src dst' x
    have hx := hρ x (by simp [Op.operands])
    split at he
    · rename_i d1 h1
      split at he
      · rename_i k h2
        split at he
        · rename_i k' n hp
          cases he
          rw [hp] at hx
          generalize hv : ev x = v at hx
          cases hx
          refine opok_keep h (v := .int k (k.wrap n)) (run_v ?_) (.int _ _)
          rw [hv]
          unfold convert
          rw [Sem.run_bind, run_underlying h1]
          simp only [Result.andThen_ok]
          rw [Sem.run_bind, run_underlying h2]
          simp only [Result.andThen_ok]
          rfl
        · cases he
      · cases he
    · cases he
  · rename_i t x
    split at he
    · cases he
    · rename_i d hd hni
      cases he
      refine opok_keep h (v := .iface t (ev x)) (run_v ?_) (.ifc t _ _ (hs x (by simp [Op.operands])))
      unfold Instr.makeInterface
      rw [Sem.run_bind, run_underlying hni]
      simp only [Result.andThen_ok]
      rfl
    · cases he
  · rename_i f first cap
    cases he
    obtain ⟨a1, a2⟩ := map_rel (w := w) (M0 := M0) (σ := σ) (H := H) (ev := ev) (ρ := fun x => s (ρ x)) (xs := first) (fun x hx => hs x (by simp [Op.operands, hx]))
    obtain ⟨b1, b2⟩ := map_rel (w := w) (M0 := M0) (σ := σ) (H := H) (ev := ev) (ρ := fun x => s (ρ x)) (xs := cap) (fun x hx => hs x (by simp [Op.operands, hx]))
    refine opok_keep h (v := .func f (first.map ev) (cap.map ev)) (run_v rfl) ?_
    have := VR.fn (w := w) (M := MU M0 σ H) (σ := σ) (L := LV H) f (first.map ev).toList (cap.map ev).toList _ _ a1 b1 a2 b2
    simp only [Array.toArray_toList] at this
    exact this
  · rename_i t x y
    rw [Option.map_eq_some_iff] at he
    obtain ⟨r', hr, e'⟩ := he
    cases e'
    exact op_make h (hρ x (by simp [Op.operands])) (hρ y (by simp [Op.operands])) hr
  · rename_i t x lo hi
    rw [Option.map_eq_some_iff] at he
    obtain ⟨r', hr, e'⟩ := he
    cases e'
    refine op_slice h (hs x (by simp [Op.operands])) (plo := lo.map ρ) (phi := hi.map ρ) ?_ (fun e => ?_) ?_ (fun e => ?_) hr
    · intro v hv
      cases lo with
      | none => cases hv
      | some y => cases hv; exact ⟨ρ y, rfl, hρ y (by simp [Op.operands])⟩
    · cases lo with
      | none => rfl
      | some y => cases e
    · intro v hv
      cases hi with
      | none => cases hv
      | some y => cases hv; exact ⟨ρ y, rfl, hρ y (by simp [Op.operands])⟩
    · cases hi with
      | none => rfl
      | some y => cases e
  · rename_i t x f
    split at he
    · rename_i ft o' hf
      exact op_fieldAddr h hf he (hρ x (by simp [Op.operands]))
    · cases he
  · rename_i t x f
    split at he
    · rename_i ft o' hf
      split at he
      · rename_i l hp
        rw [Option.map_eq_some_iff] at he
        obtain ⟨r', hr, e'⟩ := he
        cases e'
        have hx := hρ x (by simp [Op.operands])
        rw [hp] at hx
        exact op_field h hx hf hr
      · cases he
    · cases he
  · rename_i t x i
    rw [Option.map_eq_some_iff] at he
    obtain ⟨r', hr, e'⟩ := he
    cases e'
    exact op_indexAddr h (hs x (by simp [Op.operands])) (hρ i (by simp [Op.operands])) hr
  · rename_i t x i
    rw [Option.map_eq_some_iff] at he
    obtain ⟨r', hr, e'⟩ := he
    cases e'
    exact op_index h (hρ x (by simp [Op.operands])) (hρ i (by simp [Op.operands])) hr
  · rename_i x i
    split at he
    · rename_i l hp
      rw [Option.map_eq_some_iff] at he
      obtain ⟨r', hr, e'⟩ := he
      cases e'
      have hx := hρ x (by simp [Op.operands])
      rw [hp] at hx
      generalize hv : ev x = v at hx
      cases hx with
      | tup cs _ hl hh =>
        have hi : i < cs.length := by rw [hl]; exact (List.getElem?_eq_some_iff.1 hr).1
        refine op_val h (v := cs[i]) ?_ (hh i _ _ (List.getElem?_eq_getElem hi) hr)
        simp only [execOp, hv, Instr.extract, List.getElem?_toArray, List.getElem?_eq_getElem hi]
        rfl
    · cases he
  · rename_i x xt t
    split at he
    · rename_i t' p hp
      split at he
      · rename_i htt
        obtain ⟨hi, htt⟩ := htt
        cases he
        subst htt
        have hx := hρ x (by simp [Op.operands])
        rw [hp] at hx
        generalize hv : ev x = v at hx
        cases hx with
        | ifc _ v0 _ hv0 =>
        refine opok_keep h (v := .tuple #[v0, .bool true]) ?_ (.tup [v0, .bool true] _ rfl fun i v q h1 h2 => ?_)
        · unfold ifcT at hi
          cases hu : P.underlying t' with
          | none => rw [hu] at hi; cases hi
          | some d =>
            rw [hu] at hi
            simp only [execOp, hv, Instr.typeAssert, Sem.run_bind, run_underlying hu, Result.andThen_ok, Sem.run_pure]
            cases d <;> first | (simp at hi; done) | simp
        · match i with
          | 0 => cases h1; cases h2; exact hv0
          | 1 => cases h1; cases h2; exact .bool _
          | i + 2 => simp at h1
      · cases he
    · cases he
  · rename_i c
    split at he
    · rename_i hc
      split at he
      · rename_i x t hx ht
        split at he
        · rename_i hn
          rw [Option.map_eq_some_iff] at he
          obtain ⟨r', hr, e'⟩ := he
          cases e'
          have hargs : c.args = #[x] := by
            obtain ⟨callee, args, ats⟩ := c
            obtain ⟨args⟩ := args
            simp only [List.size_toArray] at hn
            obtain ⟨y, rfl⟩ := List.length_eq_one_iff.1 hn
            simp at hx; subst hx; rfl
          have hv := hs x (by simp [Op.operands, Call.operands, hc, hargs])
          have key : ∃ v, (Builtin.len_ c.argTypes ty #[ev x]).run P w = .ok v w ∧ VV w M0 σ H v r := by
            unfold evLen at hr
            unfold Builtin.len_
            simp only [ht, List.getElem?_toArray, List.getElem?_cons_zero]
            split at hr
            · rename_i e0 hu
              split at hr
              · rename_i els hp
                cases hr
                rw [Sem.run_bind, run_underlying hu]
                simp only [Result.andThen_ok]
                rw [hp] at hv
                rcases sl_cases hv with ⟨rfl, A, cap, hvv⟩ | ⟨b, o, sz, cap, f, hvv, _⟩
                · rw [hvv]; exact ⟨_, rfl, .int _ _⟩
                · rw [hvv]; exact ⟨_, rfl, .int _ _⟩
              · rename_i id n e1 sz1 hp
                cases hr
                rw [Sem.run_bind, run_underlying hu]
                simp only [Result.andThen_ok]
                rw [hp] at hv
                generalize ev x = vv at hv
                cases hv with
                | bs _ _ _ _ hL h0 hc _ _ => exact ⟨_, rfl, .int _ _⟩
              · rename_i hp
                cases hr
                rw [Sem.run_bind, run_underlying hu]
                simp only [Result.andThen_ok]
                rw [hp] at hv
                generalize ev x = vv at hv
                cases hv with
                | bz => exact ⟨_, rfl, .int _ _⟩
              · cases hr
            · rename_i n e0 hu
              cases hr
              rw [Sem.run_bind, run_underlying hu]
              simp only [Result.andThen_ok]
              exact ⟨_, rfl, .int _ _⟩
            · cases hr
          obtain ⟨v, h1, h2⟩ := key
          refine opok_keep h (v := v) ?_ h2
          simp only [execOp, resolve, hc, hargs, invoke, builtin, pure_bind, List.map_toArray, List.map_cons, List.map_nil, Sem.run_bind, h1, Result.andThen_ok, Sem.run_pure]
        · cases he
      · cases he
    · rename_i hc
      split at he
      · rename_i x y t t' ha hts
        have hargs : c.args = #[x, y] := by rw [← Array.toArray_toList (xs := c.args), ha]
        have htys : c.argTypes = #[t, t'] := by rw [← Array.toArray_toList (xs := c.argTypes), hts]
        have := op_append (P := P) (ty := ty) h hm (hρ x (by simp [Op.operands, Call.operands, hc, hargs])) (hs y (by simp [Op.operands, Call.operands, hc, hargs])) he
        have e1 : execOp ev { dst := dst, op := .call c, type := ty, pos := pos, after := after, guard := guard } = (do pure (.value (← Builtin.append_ #[t, t'] ty #[ev x, ev y]))) := by
          simp only [execOp, resolve, hc, hargs, htys, invoke, builtin, pure_bind, List.map_toArray, List.map_cons, List.map_nil]
        rw [e1]; exact this
      · cases he
    · cases he
  · cases he
theorem op_makeB (h : HR w M0 σ H) (hm : H m = none) {t e0 : TypeId} {v u : Value} {p q : PV} {els : List (List PV)} (hv : VV w M0 σ H v p) (hu : VV w M0 σ H u q) (he : evMake P t p q = some (.sl els)) (ht0 : P.underlying t = some (.slice e0)) : OpOk P w M0 σ H m (do pure (.value (← Instr.makeSlice t v u))) (.bs m els.length e0 (P.cellsOf e0)) (.new els.flatten) := by
  unfold evMake at he
  split at he
  · rename_i e ht
    split at he
    · rename_i sz by_ zl hei hzl
      split at he
      · rename_i k a
        split at he
        · rename_i k' b
          split at he
          · rename_i hc
            cases he
            obtain ⟨rfl, h0, hby, h63⟩ := hc
            cases hv; cases hu
            obtain ⟨ie, z, hie, hz, hsz, hby', hzs, hpos⟩ := eInfo_ok hei
            obtain ⟨n, rfl⟩ := Int.eq_ofNat_of_zero_le h0
            simp only [Int.toNat_natCast]
            obtain rfl : e0 = e := by rw [ht] at ht0; cases ht0; rfl
            have hce : P.cellsOf e0 = ie.size := by simp [Program.cellsOf, hie]
            have hcz : CR w (MU M0 σ H) σ (LV H) z.cells.toList zl := by
              unfold zeros at hzl
              simp only [hie, hz] at hzl
              split at hzl
              · rename_i ho; cases hzl; exact cr_cv0 _ ho
              · cases hzl
            have hzl' : zl.length = sz := by rw [← hcz.len, Array.length_toList, hzs]
            have hl1 : (List.replicate n zl).flatten.length = n * sz := by
              rw [flatten_length (sz := sz) (fun e he => by rw [List.eq_of_mem_replicate he]; exact hzl')]; simp
            have hc0 : CR w (MU M0 σ H) σ (LV H) (madeCells z.cells (n * ie.size)).toList (List.replicate n zl).flatten := by
              refine ⟨by rw [hl1, Array.length_toList, size_madeCells, hsz], fun v hv => ?_, fun i v p hv hp => ?_⟩
              · simp only [madeCells, Array.toList_map, Array.toList_range, List.mem_map] at hv
                obtain ⟨q, _, rfl⟩ := hv
                have hlt : q % z.cells.size < z.cells.size := Nat.mod_lt _ (by omega)
                rw [getElem!_pos z.cells _ hlt]
                exact hcz.one _ (by simp)
              · have hi : i < n * sz := by rw [← hl1]; exact (List.getElem?_eq_some_iff.1 hp).1
                simp only [madeCells, Array.toList_map, Array.toList_range, List.getElem?_map] at hv
                rw [List.getElem?_range (by rw [hsz]; exact hi)] at hv
                simp only [Option.map_some, Option.some.injEq] at hv
                have hlt : i % z.cells.size < z.cells.size := Nat.mod_lt _ (by omega)
                rw [getElem!_pos z.cells _ hlt] at hv
                rw [repl_get zl n i (by rw [hzl']; exact hi), hzl'] at hp
                obtain ⟨v', hv', hr', _⟩ := hcz.get hp
                have : z.cells[i % z.cells.size] = v' := by
                  have h2 : z.cells.toList[i % sz]? = some z.cells[i % z.cells.size] := by
                    rw [Array.getElem?_toList, Array.getElem?_eq_some_iff]
                    exact ⟨by rw [hzs]; exact Nat.mod_lt _ hpos, by simp only [hzs]⟩
                  rw [hv'] at h2; exact (Option.some.inj h2).symm
                rw [← hv, this]; exact hr'
            have hrun := run_make (P := P) w t e0 ie z ht hie hz k k' (n : Int) (n : Int) (by omega) (Int.le_refl _) (by rw [hby']; exact hby) h63
            simp only [Int.toNat_natCast] at hrun
            rw [List.length_replicate]
            rw [hce]
            refine opok_of (e := .new _) (run_v hrun) (.inl rfl) ?_ (h.new hm _ e0 _ hc0 n ie.size (size_madeCells _ _) (by simp only [maxLen]; omega))
            have := VR.bs (w := w.alloc (.cells (madeCells z.cells (n * ie.size)) e0)) (M := MU M0 (gset σ m ⟨w.heap.size, n, 0, e0, ie.size⟩) (hset H m (some (.box (List.replicate n zl).flatten)))) (σ := gset σ m ⟨w.heap.size, n, 0, e0, ie.size⟩) (L := LV (hset H m (some (.box (List.replicate n zl).flatten)))) m n e0 ie.size (gset_lv _) (by rw [gset_same]) (by rw [gset_same]; exact Nat.le_refl _) (by rw [gset_same]) (by rw [gset_same])
            rw [gset_same] at this
            exact this
          · cases he
        · cases he
      · cases he
    · cases he
  · cases he
theorem op_appendB (h : HR w M0 σ H) (hm : H m = none) {t t' ty : TypeId} {vx vy : Value} {y : PV} {id n e0 sz0 : Nat} {ys : List (List PV)} (hx : VV w M0 σ H vx .nilsl) (hy : VV w M0 σ H vy y) (he : evAppend P .nilsl y H m t t' = some (.gr id n, .born e0 sz0 ys)) :
    OpOk P w M0 σ H m (do pure (.value (← Builtin.append_ #[t, t'] ty #[vx, vy]))) (.bs m n e0 sz0) (.new ys.flatten) := by
  unfold evAppend at he
  split at he
  case h_2 => cases he
  rename_i el ht
  split at he
  case h_2 => cases he
  rename_i el' ht'
  split at he
  case h_2 => cases he
  rename_i sz by_ hei
  obtain ⟨i, z, hi, hz, hsz, hby, hzs, hpos⟩ := eInfo_ok hei
  split at he
  case h_2 => cases he
  rename_i ys'
  split at he
  case isFalse => cases he
  rename_i hall
  have hys : ∀ r ∈ ys', r.length = sz := fun r hr => by simpa using List.all_eq_true.1 hall r hr
  obtain ⟨news, hsrc, hcr⟩ := src_ok ht' hy hys
  subst hsz; subst hby
  cases hx with
  | nilsl A =>
    simp only at he
    split at he
    · cases he
    · rename_i y0 ys0
      split at he
      case isFalse => cases he
      rename_i hb
      simp only [Option.some.injEq, Prod.mk.injEq, PV.gr.injEq, Eff.born.injEq] at he
      obtain ⟨⟨_, hn⟩, rfl, rfl, rfl⟩ := he
      obtain ⟨hb, hml⟩ := hb
      rw [hn] at hb hml hsrc
      have hn0 : 0 < n := by rw [← hn]; simp
      have h63 : n ≤ 9223372036854775807 := by simp only [maxLen] at hml; omega
      have hgr := run_append_grow_src (P := P) w t t' ty el i z ht hi hz A 0 0 [] (by cases A <;> simp [Builtin.firstCells, loadCells, loadCellsFrom]) vy n news hsrc (by omega) (by omega) (growslice_fits (by omega) (by simpa using hb))
      simp only [Nat.zero_add, List.nil_append] at hgr
      have hbel : Below w.heap.size w (w.drew.alloc (.cells (news.toArray ++ Builtin.zeroCells z.cells (grownCap w n 0 el - n)) el)) := (Below.refl _ _).drew.alloc (by simp) _
      have hge := grownCap_ge w n 0 el
      have hmore := h.more hbel hm (.box (y0 :: ys0).flatten) ⟨w.heap.size, grownCap w n 0 el, 0, el, i.size⟩ (Nat.le_refl _) (by simp) (fun l hl => by
        cases hl
        refine ⟨rfl, _, el, heap_alloc_new w.drew _, ⟨rfl, ?_, grownCap_le_maxLen w n 0 el hml⟩, ?_⟩
        · simp only [Array.size_append, List.size_toArray, size_zeroCells, hzs, hsrc.newsLen, ← Nat.add_mul]
          congr 1
          omega
        rw [← hcr.len]
        simp only [Array.toList_append]
        rw [List.take_left]
        exact hcr) (fun e sz els hl => by cases hl)
      refine opok_of (e := .new (y0 :: ys0).flatten) (run_v hgr) (.inl rfl) ?_ hmore
      have := VR.bs (w := w.drew.alloc (.cells (news.toArray ++ Builtin.zeroCells z.cells (grownCap w n 0 el - n)) el)) (M := MU M0 (gset σ m ⟨w.heap.size, grownCap w n 0 el, 0, el, i.size⟩) (hset H m (some (.box (y0 :: ys0).flatten)))) (σ := gset σ m ⟨w.heap.size, grownCap w n 0 el, 0, el, i.size⟩) (L := LV (hset H m (some (.box (y0 :: ys0).flatten)))) m n el i.size (gset_lv _) (by rw [gset_same]) (by rw [gset_same]; exact hge) (by rw [gset_same]) (by rw [gset_same])
      rw [gset_same] at this
      exact this
theorem op_copy (h : HR w M0 σ H) {t t' ty e id n e1 sz1 : Nat} {vx vy : Value} {ys : List (List PV)} {c : List PV} (hx : VV w M0 σ H vx (.bs id n e1 sz1)) (hy : VV w M0 σ H vy (.sl ys)) (ht : P.underlying t = some (.slice e)) (hid : H id = some (.box c)) (hys : ∀ r ∈ ys, r.length = P.cellsOf e) (hie : (P.info? e).isSome = true) (hc : n * P.cellsOf e ≤ c.length) :
    OpOk P w M0 σ H m (do pure (.value (← Builtin.copy_ #[t, t'] ty #[vx, vy]))) (.int .i64 (min ys.length n : Nat)) (.put id 0 (ys.take (min ys.length n)).flatten) := by
  obtain ⟨i, hi⟩ := Option.isSome_iff_exists.1 hie
  have hsz : P.cellsOf e = i.size := by simp [Program.cellsOf, hi]
  cases hx with
  | bs _ _ _ _ hL h0 hcap _ _ =>
    obtain ⟨_, cs, t0, hg, _, hcs⟩ := h.box id c hid
    have hcl : c.length ≤ cs.toList.length := by have := hcs.len; rw [List.length_take] at this; omega
    obtain ⟨A, cap', vals, hvy, hvl, hcr⟩ : ∃ (A : Option Addr) (cap' : Nat) (vals : List Value), vy = .slice A ys.length cap' ∧ (∀ k, k ≤ ys.length → (Builtin.firstCells i.size k vy).run P w = .ok (vals.take (k * i.size)).toArray w) ∧ CR w (MU M0 σ H) σ (LV H) vals ys.flatten := by
      rcases sl_cases hy with ⟨rfl, A, cap, rfl⟩ | ⟨b, o, sz', cap, f, rfl, hc, hs', hcell, hh⟩
      · refine ⟨A, cap, [], rfl, fun k hk => ?_, ⟨rfl, fun v hv => (List.not_mem_nil hv).elim, fun i v p hv => by simp at hv⟩⟩
        have : k = 0 := by simpa using hk
        subst this
        cases A <;> simp [Builtin.firstCells, loadCells, loadCellsFrom]
      · obtain ⟨c1, c2⟩ := cr_flat (sz := sz') hcell hh
        refine ⟨_, cap, _, rfl, fun k hk => ?_, c1⟩
        refine run_firstCells_some w i.size k ⟨b, o, none⟩ ys.length cap _ ?_ (fun j u hu => ?_)
        · rw [List.length_take, c1.len, flatten_length hys, hsz]
          exact Nat.min_eq_left (Nat.mul_le_mul_right _ hk)
        · rw [List.getElem?_take] at hu
          split at hu
          · rw [Addr.add_lit]; exact c2 j u hu
          · cases hu
    subst hvy
    obtain ⟨k, hk⟩ : ∃ k, k = min ys.length n := ⟨_, rfl⟩
    have hk1 : k ≤ ys.length := by omega
    have hk2 : k ≤ n := by omega
    have hfl : (ys.take k).flatten.length = k * i.size := by rw [flatten_length (sz := i.size) (fun e he => by rw [← hsz]; exact hys e (List.mem_of_mem_take he)), List.length_take, Nat.min_eq_left hk1]
    have hft : (ys.take k).flatten = ys.flatten.take (k * i.size) := by
      conv => rhs; rw [← List.take_append_drop k ys, List.flatten_append]
      rw [List.take_left' hfl]
    have hcr2 : CR w (MU M0 σ H) σ (LV H) (vals.take (k * i.size)) (ys.take k).flatten := by
      rw [hft]
      have := hcr.cut 0 (k * i.size)
      simpa using this
    have hfit : 0 + (ys.take k).flatten.length ≤ c.length := by rw [hfl, Nat.zero_add, ← hsz]; exact Nat.le_trans (Nat.mul_le_mul_right _ hk2) hc
    have hst := run_storeCells_at (P := P) (σ id).blk 0 t0 (vals.take (k * i.size)) 0 cs w hg (by rw [hcr2.len, ← Array.length_toList (xs := cs)]; omega) hcr2.one
    have hput := h.put hid hg (l' := splice c 0 (ys.take k).flatten) (c' := (splice cs.toList 0 (vals.take (k * i.size))).toArray) (splice_len _ _ _ hfit) (by rw [List.size_toArray, splice_len _ _ _ (by rw [hcr2.len]; omega), Array.length_toList]) (by rw [splice_len _ _ _ hfit, List.toList_toArray, splice_take _ _ _ _ (by rw [hcr2.len]; exact hfit) hcl]; exact hcs.splice hcr2 hfit)
    have happ : Eff.app m H (.put id 0 (ys.take k).flatten) = hset H id (some (.box (splice c 0 (ys.take k).flatten))) := by simp [Eff.app, hid]
    rw [← hk]
    refine opok_of (e := .put id 0 (ys.take k).flatten) (n := .value (.int .i64 (k : Nat))) (v := .int .i64 (k : Nat)) (σ' := σ) (w' := w.setRow (σ id).blk (splice cs.toList 0 (vals.take (k * i.size))).toArray) (run_v ?_) (.inl rfl) (.int _ _) (by rw [happ]; exact hput)
    have hmin : Nat.min ys.length n = k := hk.symm
    have hcells := hvl k hk1
    have hst' : (storeCells ⟨(σ id).blk, 0, none⟩ (vals.take (k * i.size))).run P w = .ok () (w.setRow (σ id).blk (splice cs.toList 0 (vals.take (k * i.size))).toArray) := by
      simp only [Nat.add_zero] at hst; exact hst
    simp [Builtin.copy_, run_underlying ht, Builtin.lenOf, hmin, sizeOf, typeInfo, hi, hcells, hst', goInt]
set_option maxHeartbeats 2000000 in
theorem bs_sound (h : HR w M0 σ H) (hm : H m = none) {ev : Operand → Value} {ρ : Operand → PV} {s : PV → PV} {o : Oper} (hρ : ∀ x ∈ o.op.operands, VV w M0 σ H (ev x) (ρ x)) (hs : ∀ x ∈ o.op.operands, VV w M0 σ H (ev x) (s (ρ x))) {r : PV} {e : Eff}
    (he : evBs P ρ s H m o.op = some (r, e)) : OpOk P w M0 σ H m (execOp ev o) r e := by
  obtain ⟨dst, op, ty, pos, after, guard⟩ := o
  simp only at hρ hs he
  unfold evBs at he
  split at he
  · rename_i t x y
    split at he
    · rename_i e0 ht0
      split at he
      · rename_i els hmk
        cases he
        exact op_makeB h hm (hρ x (by simp [Op.operands])) (hρ y (by simp [Op.operands])) hmk ht0
      · cases he
    · cases he
  · rename_i t n parts
    split at he
    · rename_i els hmk
      split at he
      · rename_i e0 ht0
        cases he
        exact op_buildB h hm (ρ := fun x => s (ρ x)) (fun x hx => hs x (by simpa [Op.operands] using hx)) hmk ht0
      · cases he
    · cases he
  · rename_i c
    split at he
    · rename_i hc
      split at he
      · rename_i x y t t' ha hts
        have hargs : c.args = #[x, y] := by rw [← Array.toArray_toList (xs := c.args), ha]
        have htys : c.argTypes = #[t, t'] := by rw [← Array.toArray_toList (xs := c.argTypes), hts]
        have e1 : execOp ev { dst := dst, op := .call c, type := ty, pos := pos, after := after, guard := guard } = (do pure (.value (← Builtin.append_ #[t, t'] ty #[ev x, ev y]))) := by
          simp only [execOp, resolve, hc, hargs, htys, invoke, builtin, pure_bind, List.map_toArray, List.map_cons, List.map_nil]
        split at he
        · rename_i hx
          split at he
          · rename_i id n e0 sz0 ys hap
            cases he
            have h1 := hρ x (by simp [Op.operands, Call.operands, hc, hargs])
            rw [hx] at h1
            rw [e1]
            exact op_appendB h hm h1 (hs y (by simp [Op.operands, Call.operands, hc, hargs])) hap
          · cases he
        · cases he
      · cases he
    · rename_i hc
      split at he
      · rename_i x y t t' ha hts
        have hargs : c.args = #[x, y] := by rw [← Array.toArray_toList (xs := c.args), ha]
        have htys : c.argTypes = #[t, t'] := by rw [← Array.toArray_toList (xs := c.argTypes), hts]
        have e1 : execOp ev { dst := dst, op := .call c, type := ty, pos := pos, after := after, guard := guard } = (do pure (.value (← Builtin.copy_ #[t, t'] ty #[ev x, ev y]))) := by
          simp only [execOp, resolve, hc, hargs, htys, invoke, builtin, pure_bind, List.map_toArray, List.map_cons, List.map_nil]
        split at he
        · rename_i id n q1 z1 hx
          split at he
          · rename_i e0 ht
            split at he
            · rename_i ys hy
              split at he
              · rename_i c0 hid
                split at he
                · rename_i hb
                  cases he
                  have h1 := hρ x (by simp [Op.operands, Call.operands, hc, hargs])
                  rw [hx] at h1
                  have h2 := hs y (by simp [Op.operands, Call.operands, hc, hargs])
                  rw [hy] at h2
                  rw [e1]
                  exact op_copy h h1 h2 ht hid (fun r hr => by simpa using List.all_eq_true.1 hb.1 r hr) hb.2.1 hb.2.2
                · cases he
              · cases he
            · cases he
          · cases he
        · cases he
      · cases he
    · cases he
  · cases he
theorem evBs_grow {ρ : Operand → PV} {s : PV → PV} {op : Op} {r : PV} {e : Eff} (he : evBs P ρ s H m op = some (r, e)) : ∀ id e' sz els, e = .grow id e' sz els → H id ≠ none := by
  intro id e' sz els hg
  subst hg
  unfold evBs at he
  repeat' (split at he <;> (try (simp at he; done)))
end
end Go.Proofs.Yteibeoipnjhicaa
