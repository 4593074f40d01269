import Derived.Test.YteibeoipnjhicaaEvh
namespace Go.Proofs.Yteibeoipnjhicaa
open Go Go.RowKit
set_option linter.unusedVariables false
set_option linter.unusedSimpArgs false
section
variable {P : Program} {w : World} {M0 : Nat → Nat → Prop} {σ : Nat → Gh} {H : Heap} {m : Nat}
theorem op_indexAddr (h : HR w M0 σ H) {t : TypeId} {v u : Value} {p q r : PV} (hv : VV w M0 σ H v p) (hu : VV w M0 σ H u q) (he : evIndexAddr P t p q = some r) : OpOk P w M0 σ H m (do pure (.value (← Instr.indexAt t v u))) r .nop := by
  unfold evIndexAddr at he
  split at he
  · rename_i k n
    cases hu
    split at he
    · rename_i e ht
      split at he
      · rename_i els
        split at he
        · rename_i h0
          split at he
          · rename_i c hc
            split at he
            · rename_i hcl
              cases he
              obtain ⟨i, hi⟩ := Option.isSome_iff_exists.1 hcl.2
              have hlt : n.toNat < els.length := (List.getElem?_eq_some_iff.1 hc).1
              rcases sl_cases hv with ⟨rfl, _⟩ | ⟨b, o, sz, cap, f, rfl, hcp, hs, hcell, hh⟩
              · simp at hlt
              · have hsz : P.cellsOf e = sz := by rw [← hcl.1]; exact hs _ (List.mem_of_getElem? hc)
                refine opok_keep h (v := .pointer (some ⟨b, o + n.toNat * sz, none⟩)) (run_v ?_) (.ref b _ c (fun j => f (n.toNat * sz + j)) (fun j p hj => ?_) (fun j p hj => hh _ p (flatten_at hs hc j p hj)))
                · unfold Instr.indexAt
                  simp only [asIntOf, Sem.run_bind, Sem.run_pure, Result.andThen_ok, run_underlying ht]
                  rw [if_pos ⟨h0, by omega⟩]
                  simp only [Sem.run_bind, run_sizeOf w hi, Result.andThen_ok, Sem.run_pure, Addr.add_lit, hsz]
                · have := hcell _ p (flatten_at hs hc j p hj)
                  rwa [← Nat.add_assoc] at this
            · cases he
          · cases he
        · cases he
      · rename_i id k e1 sz1
        split at he
        · rename_i hb
          cases he
          obtain ⟨i, hi⟩ := Option.isSome_iff_exists.1 hb.2.2
          cases hv with
          | bs _ _ _ _ hL h0 hc _ _ =>
            refine opok_keep h (v := .pointer (some ⟨(σ id).blk, n.toNat * P.cellsOf e, none⟩)) (run_v ?_) (.ptr id _ hL h0)
            unfold Instr.indexAt
            simp only [asIntOf, Sem.run_bind, Sem.run_pure, Result.andThen_ok, run_underlying ht]
            rw [if_pos ⟨hb.1, by omega⟩]
            simp only [Sem.run_bind, run_sizeOf w hi, Result.andThen_ok, Sem.run_pure, Addr.add_lit, Nat.zero_add]
        · cases he
      · cases he
    · rename_i len e ht
      split at he
      · rename_i hb
        obtain ⟨i, hi⟩ := Option.isSome_iff_exists.1 hb.2.2
        have hrun : ∀ b o, (Instr.indexAt t (.pointer (some ⟨b, o, none⟩)) (.int k n)).run P w = .ok (.pointer (some ⟨b, o + n.toNat * P.cellsOf e, none⟩)) w := by
          intro b o
          unfold Instr.indexAt
          simp only [asIntOf, Sem.run_bind, Sem.run_pure, Result.andThen_ok, run_underlying ht, Instr.sureAddr]
          rw [if_pos ⟨hb.1, hb.2.1⟩]
          simp only [Sem.run_bind, run_sizeOf w hi, Result.andThen_ok, Sem.run_pure, Addr.add_lit]
        split at he
        · rename_i id off
          cases he
          cases hv with
          | ptr _ _ hL h0 => exact opok_keep h (run_v (hrun _ _)) (.ptr id _ hL h0)
        · rename_i l
          cases he
          cases hv with
          | ref b o _ f hcell hh =>
            refine opok_keep h (run_v (hrun _ _)) (.ref b _ _ (fun j => f (n.toNat * P.cellsOf e + j)) (fun j p hj => ?_) (fun j p hj => ?_))
            · rw [List.getElem?_drop] at hj
              have := hcell _ p hj
              rwa [← Nat.add_assoc] at this
            · rw [List.getElem?_drop] at hj
              exact hh _ p hj
        · cases he
      · cases he
    · cases he
  · cases he
theorem op_index (h : HR w M0 σ H) {t : TypeId} {v u : Value} {p q r : PV} (hv : VV w M0 σ H v p) (hu : VV w M0 σ H u q) (he : evIndex P t p q = some r) : OpOk P w M0 σ H m (do pure (.value (← Instr.index t v u))) r .nop := by
  unfold evIndex at he
  split at he
  · rename_i k n
    cases hu
    split at he
    · rename_i len e ht
      split at he
      · rename_i l
        split at he
        · rename_i hb
          obtain ⟨i, hi⟩ := Option.isSome_iff_exists.1 hb.2.2
          obtain ⟨cs, rfl, hc⟩ := VR.cells_list hv
          obtain ⟨x, hx, hr, _⟩ := part_sound (P := P) (w := w) hc he
          refine opok_keep h (run_v ?_) hr
          unfold Instr.index
          simp only [asIntOf, Sem.run_bind, Sem.run_pure, Result.andThen_ok, run_underlying ht]
          rw [if_pos ⟨hb.1, hb.2.1⟩]
          simp only [Sem.run_bind, run_sizeOf w hi, Result.andThen_ok, hx]
        · cases he
      · cases he
    · cases he
  · cases he
theorem fieldOf_ok {t ft o : Nat} {f : Nat} (h : fieldOf P t f = some (ft, o)) : ∃ fs fd i, P.underlying t = some (.struct fs) ∧ fs[f]? = some fd ∧ fd.type = ft ∧ fd.offset = o ∧ P.info? ft = some i ∧ P.cellsOf ft ≠ 0 := by
  unfold fieldOf at h
  split at h
  · rename_i fs hu
    split at h
    · rename_i fd hf
      split at h
      · rename_i hc
        cases h
        obtain ⟨b, hb⟩ := Option.isSome_iff_exists.1 hc.1
        obtain ⟨i, hi, _⟩ := info_of hb
        exact ⟨fs, fd, i, hu, hf, rfl, rfl, hi, by omega⟩
      · cases h
    · cases h
  · cases h
theorem run_fieldAt {t ft o f b off : Nat} (h : fieldOf P t f = some (ft, o)) : (Instr.fieldAt t (.pointer (some ⟨b, off, none⟩)) f).run P w = .ok (.pointer (some ⟨b, off + o, none⟩)) w := by
  obtain ⟨fs, fd, i, hu, hf, rfl, rfl, hi, hn⟩ := fieldOf_ok h
  unfold Instr.fieldAt
  simp only [Sem.run_bind, run_underlying hu, Result.andThen_ok, hf, Instr.sureAddr, Sem.run_pure]
  unfold fieldPlace
  simp only [Sem.run_bind, run_sizeOf w hi, Result.andThen_ok, hn, if_false, Sem.run_pure, Addr.add_lit]
theorem op_fieldAddr (h : HR w M0 σ H) {t ft o f : Nat} {v : Value} {p r : PV} {e : Eff} (hf : fieldOf P t f = some (ft, o))
    (he : (match p with
      | .ptr id off => some (PV.ptr id (off + o), Eff.nop)
      | .ref l => some (.ref (l.drop o), .nop)
      | _ => none) = some (r, e)) (hv : VV w M0 σ H v p) : OpOk P w M0 σ H m (do pure (.value (← Instr.fieldAt t v f))) r e := by
  cases p with
  | ptr id off =>
    cases he
    cases hv with
    | ptr _ _ hL h0 => exact opok_keep h (run_v (run_fieldAt hf)) (.ptr id _ hL h0)
  | ref l =>
    cases he
    cases hv with
    | ref b o' _ g hcell hh =>
      refine opok_keep h (run_v (run_fieldAt hf)) (.ref b _ _ (fun j => g (o + j)) (fun j p hj => ?_) (fun j p hj => ?_))
      · rw [List.getElem?_drop] at hj
        have := hcell _ p hj
        rwa [← Nat.add_assoc] at this
      · rw [List.getElem?_drop] at hj
        exact hh _ p hj
  | _ => cases he
theorem op_field (h : HR w M0 σ H) {t ft o f : Nat} {v : Value} {l : List PV} {r : PV} (hv : VV w M0 σ H v (.agg l)) (hf : fieldOf P t f = some (ft, o)) (he : cut P ft l o = some r) : OpOk P w M0 σ H m (do pure (.value (← Instr.field t v f))) r .nop := by
  obtain ⟨fs, fd, i, hu, hf2, rfl, rfl, hi, hn⟩ := fieldOf_ok hf
  clear hf
  obtain ⟨cs, rfl, hc⟩ := VR.cells_list hv
  obtain ⟨x, hx, hr, _⟩ := part_sound (P := P) (w := w) hc he
  refine opok_keep h (run_v ?_) hr
  unfold Instr.field
  simp only [Sem.run_bind, run_underlying hu, Result.andThen_ok, hf2, asAgg, Sem.run_pure, hx]
theorem cr_flat {M L} {b o sz : Nat} {els : List (List PV)} {f : Nat → Value} (hcell : ∀ (q : Nat) (p : PV), els.flatten[q]? = some p → w.cell? ⟨b, o + q, none⟩ = some (f q) ∧ ¬ M b (o + q) ∧ (f q).oneCell' = true)
    (h : ∀ (q : Nat) (p : PV), els.flatten[q]? = some p → VR w M σ L (f q) p) : CR w M σ L ((List.range els.flatten.length).map f) els.flatten ∧ ∀ j v, ((List.range els.flatten.length).map f)[j]? = some v → w.cell? ⟨b, o + j, none⟩ = some v := ref_cells hcell h
/-- What the second argument of an append yields. -/
theorem src_ok {e' tx sz : Nat} (hk : P.underlying tx = some (.slice e')) {v : Value} {ys : List (List PV)} (hv : VV w M0 σ H v (.sl ys)) (hs : ∀ r ∈ ys, r.length = sz) : ∃ news, Src P sz tx v ys.length news w ∧ CR w (MU M0 σ H) σ (LV H) news ys.flatten := by
  rcases sl_cases hv with ⟨rfl, A, cap, rfl⟩ | ⟨b, o, sz', cap, f, rfl, hc, hs', hcell, hh⟩
  · refine ⟨[], ?_, ⟨rfl, fun v hv => (List.not_mem_nil hv).elim, fun i v p hv => by simp at hv⟩⟩
    cases A with
    | none => exact Src.ofNil w hk cap
    | some a => exact Src.ofSlice w hk a 0 cap [] (by simp) (fun j u hu => by simp at hu) (fun u hu => (List.not_mem_nil hu).elim)
  · obtain ⟨c1, c2⟩ := cr_flat (sz := sz') hcell hh
    refine ⟨_, Src.ofSlice w hk ⟨b, o, none⟩ ys.length cap _ ?_ (fun j u hu => by rw [Addr.add_lit]; exact c2 j u hu) c1.one, c1⟩
    rw [c1.len, flatten_length hs]
theorem Src.drew {sz tx n : Nat} {x : Value} {news : List Value} (h : Src P sz tx x n news w) : True := trivial
theorem op_append (h : HR w M0 σ H) (hm : H m = none) {t t' ty : TypeId} {vx vy : Value} {x y r : PV} {e : Eff} (hx : VV w M0 σ H vx x) (hy : VV w M0 σ H vy y) (he : evAppend P x y H m t t' = some (r, e)) :
    OpOk P w M0 σ H m (do pure (.value (← Builtin.append_ #[t, t'] ty #[vx, vy]))) r e := by
  unfold evAppend at he
  split at he
  case h_2 => cases he
  rename_i el ht
  split at he
  case h_2 => cases he
  rename_i el' ht'
  split at he
  case h_2 => cases he
  rename_i sz by_ hei
  obtain ⟨i, z, hi, hz, hsz, hby, hzs, hpos⟩ := eInfo_ok hei
  split at he
  case h_2 => cases he
  rename_i ys
  split at he
  case isFalse => cases he
  rename_i hall
  have hys : ∀ r ∈ ys, r.length = sz := fun r hr => by simpa using List.all_eq_true.1 hall r hr
  obtain ⟨news, hsrc, hcr⟩ := src_ok ht' hy hys
  subst hsz; subst hby
  split at he
  · -- nothing yet
    cases hx with
    | nilsl A =>
      split at he
      · cases he
        have hn0 : news = [] := List.eq_nil_of_length_eq_zero (by rw [hsrc.newsLen]; simp)
        subst hn0
        refine opok_keep h (run_v (v := .slice A 0 0) ?_) (.nilsl A)
        have hk := hsrc.kind
        have hc0 : (Builtin.firstCells i.size 0 vy).run P w = .ok #[] w := by simpa using hsrc.cells
        have hl0 : ∀ w' : World, (Builtin.lenOf vy).run P w' = .ok 0 w' := by simpa using hsrc.len
        have hst : ∀ a : Addr, (storeCells a [] : Sem Unit).run P w = .ok () w := fun a => by simp [storeCells]
        rcases hk with ⟨e'', hk⟩ | hk <;> (cases A <;> simp [Builtin.append_, run_underlying ht, run_underlying hk, sizeOf, typeInfo, hi, hl0, hc0, storeCells])
      · rename_i y0 ys0
        split at he
        case isFalse => cases he
        rename_i hb
        cases he
        obtain ⟨hb, hml⟩ := hb
        obtain ⟨n, hn⟩ : ∃ n, n = (y0 :: ys0).length := ⟨_, rfl⟩
        rw [← hn] at hb hml hsrc
        have hn0 : 0 < n := by rw [hn]; simp
        have h63 : n ≤ 9223372036854775807 := by simp only [maxLen] at hml; omega
        have hgr := run_append_grow_src (P := P) w t t' ty el i z ht hi hz A 0 0 [] (by cases A <;> simp [Builtin.firstCells, loadCells, loadCellsFrom]) vy n news hsrc (by omega) (by omega) (growslice_fits (by omega) (by simpa using hb))
        simp only [Nat.zero_add, List.nil_append] at hgr
        have hbel : Below w.heap.size w (w.drew.alloc (.cells (news.toArray ++ Builtin.zeroCells z.cells (grownCap w n 0 el - n)) el)) := (Below.refl _ _).drew.alloc (by simp) _
        have hmore := h.more hbel hm (.row el i.size (y0 :: ys0)) ⟨w.heap.size, grownCap w n 0 el, n, 0, 0⟩ (Nat.le_refl _) (by simp) (fun l hl => by cases hl) (fun e sz els hl => by
          cases hl
          refine ⟨by simp, hn, hys, news, ⟨by rw [hsrc.newsLen, hn], .inr ⟨w.heap.size, grownCap w n 0 el, _, by rw [hn], Nat.zero_le _, heap_alloc_new w.drew _, by rw [← hn]; exact grownCap_ge w n 0 el, grownCap_le_maxLen w n 0 el hml, ?_, ?_⟩⟩, hcr⟩
          · simp only [Array.size_append, List.size_toArray, size_zeroCells, hzs, hsrc.newsLen, ← Nat.add_mul]
            congr 1
            have := grownCap_ge w n 0 el
            omega
          · simp only [Array.toList_append]
            rw [← hn, ← hsrc.newsLen]
            exact List.take_left)
        rw [← hn]
        refine opok_of (e := .born el i.size (y0 :: ys0)) (run_v hgr) (.inl rfl) ?_ hmore
        refine .gr m n _ hn0 (by rw [gset_same]; exact Nat.le_refl _) (gset_lv _) (fun _ => by rw [gset_same])
  · rename_i id k
    split at he
    case h_2 => cases he
    rename_i e0 sz0 els hid
    split at he
    case isFalse => cases he
    rename_i hc
    obtain ⟨hk, rfl, rfl⟩ := hc
    obtain ⟨r1, r2, r3, xs, r4, r5⟩ := h.row id _ _ els hid
    have hvx : vx = .slice (some ⟨(σ id).blk, 0, none⟩) k (σ id).cap := by
      cases hx with
      | gr _ _ _ h0 hle hL hh => exact hh (by omega)
    obtain ⟨g, cap, cur, e1, _, hg, hnc, hcm, hcs, htake⟩ : ∃ g cap cur, Value.slice (some ⟨(σ id).blk, 0, none⟩) els.length (σ id).cap = .slice (some ⟨g, 0, none⟩) els.length cap ∧ 0 ≤ g ∧ w.heap[g]? = some (.cells cur e0 (0, 0)) ∧ els.length ≤ cap ∧ cap ≤ maxLen ∧ cur.size = cap * i.size ∧ cur.toList.take (els.length * i.size) = xs := by
      rcases r4.2 with ⟨h1, _⟩ | h1
      · cases h1
      · exact h1
    injection e1 with e1 _ e3
    injection e1 with e1
    injection e1 with e1
    subst e1; subst e3
    split at he
    · cases he
      have hn0 : news = [] := List.eq_nil_of_length_eq_zero (by rw [hsrc.newsLen]; simp)
      subst hn0
      refine opok_keep h (run_v (v := vx) ?_) hx
      rw [hvx]
      have hk' := hsrc.kind
      have hc0 : (Builtin.firstCells i.size 0 vy).run P w = .ok #[] w := by simpa using hsrc.cells
      have hl0 : ∀ w' : World, (Builtin.lenOf vy).run P w' = .ok 0 w' := by simpa using hsrc.len
      rcases hk' with ⟨e'', hk'⟩ | hk' <;> (rw [← hk]; simp [Builtin.append_, run_underlying ht, run_underlying hk', sizeOf, typeInfo, hi, hl0, hc0, storeCells, hnc])
    · rename_i y0 ys0
      split at he
      case isFalse => cases he
      rename_i hb
      cases he
      obtain ⟨hb, hml⟩ := hb
      obtain ⟨n, hn⟩ : ∃ n, n = (y0 :: ys0).length := ⟨_, rfl⟩
      rw [← hn] at hb hml hsrc
      have hn0 : 0 < n := by rw [hn]; simp
      have hlen' : (els ++ (y0 :: ys0)).length = k + n := by rw [List.length_append, hk, hn]
      have hxs : xs.length = k * i.size := by rw [r4.1, hk]
      have hes : ∀ x ∈ els ++ (y0 :: ys0), x.length = i.size := fun x hx => by
        rcases List.mem_append.1 hx with hx | hx
        · exact r3 x hx
        · exact hys x hx
      have hcr2 : CR w (MU M0 σ H) σ (LV H) (xs ++ news) (els ++ (y0 :: ys0)).flatten := by rw [List.flatten_append]; exact r5.append hcr
      have hl2 : (xs ++ news).length = (k + n) * i.size := by rw [List.length_append, hxs, hsrc.newsLen, Nat.add_mul]
      have hlow0 : ∀ o, o < els.length * i.size → cur[o]? = xs[o]? := fun o ho => by
        rw [← htake, List.getElem?_take, if_pos ho]; simp
      rw [← hn]
      by_cases hroom : k + n ≤ (σ id).cap
      · have hfit : k * i.size + news.length ≤ cur.size := by rw [hsrc.newsLen, hcs, ← Nat.add_mul]; exact Nat.mul_le_mul_right _ hroom
        have hst := run_storeCells_at (P := P) (σ id).blk (k * i.size) e0 news 0 cur w hg (by simpa using hfit) hsrc.one
        simp only [Nat.add_zero] at hst
        have hrun : (Builtin.append_ #[t, t'] ty #[vx, vy]).run P w = .ok (.slice (some ⟨(σ id).blk, 0, none⟩) (k + n) (σ id).cap) (w.setRow (σ id).blk (cur.toList.take (k * i.size) ++ news ++ cur.toList.drop (k * i.size + news.length)).toArray) := by
          rw [hvx]
          rcases hsrc.kind with ⟨e'', hk'⟩ | hk' <;> simp [Builtin.append_, run_underlying ht, run_underlying hk', sizeOf, typeInfo, hi, hsrc.len, hroom, hsrc.cells, Addr.add_lit, hst]
        have htk : cur.toList.take (k * i.size) = xs := by rw [← hk]; exact htake
        have hgrow := h.grown hid (w' := w.setRow (σ id).blk (cur.toList.take (k * i.size) ++ news ++ cur.toList.drop (k * i.size + news.length)).toArray) (els' := els ++ (y0 :: ys0)) (gh := ⟨(σ id).blk, (σ id).cap, k + n, 0, 0⟩)
          ⟨rfl, rfl, rfl, by simp, fun b _ hb' => setRow_other w _ _ _ (fun e' => hb' (by rw [e']))⟩ (by rw [hlen']; omega) hlen'.symm hes (.inl rfl)
          (fun o v ho hv => by
            rw [cell_setRow_same w _ o cur _ e0 (0, 0) hg]
            rw [cell_of_row w _ o cur e0 (0, 0) hg] at hv
            rw [← hv, List.getElem?_toArray, List.append_assoc, htk, List.getElem?_append_left (by rw [hxs, ← hk]; exact ho)]
            exact (hlow0 o ho).symm)
          (xs := xs ++ news) ⟨by rw [hl2, hlen'], .inr ⟨(σ id).blk, (σ id).cap, _, rfl, Nat.zero_le _, setRow_heap w _ cur _ e0 (0, 0) hg, by rw [hlen']; exact hroom, hcm, by
            simp only [List.size_toArray, List.length_append, List.length_take, List.length_drop, Array.length_toList]; omega, by
            rw [hlen', ← hl2, htk]; exact List.take_left⟩⟩ hcr2
        refine opok_of (e := .grow id e0 i.size (els ++ (y0 :: ys0))) (run_v hrun) (.inl rfl) ?_ hgrow
        refine .gr id (k + n) _ (by omega) (by rw [gset_same]; exact Nat.le_refl _) (gset_lv _) (fun _ => by rw [gset_same])
      · have hold : (Builtin.firstCells i.size k (.slice (some ⟨(σ id).blk, 0, none⟩) k (σ id).cap)).run P w.drew = .ok xs.toArray w.drew := by
          refine run_firstCells_some (P := P) w.drew i.size k _ _ _ xs hxs (fun j u hu => ?_)
          have := r4.cells (g := (σ id).blk) rfl j u hu
          simpa using this
        have hgr := run_append_grow_src (P := P) w t t' ty e0 i z ht hi hz (some ⟨(σ id).blk, 0, none⟩) k (σ id).cap xs hold vy n news hsrc (by omega) (by simp only [maxLen] at hml; omega) (growslice_fits (by omega) hb)
        rw [← hvx] at hgr
        have hge := grownCap_ge w (k + n) (σ id).cap e0
        have hgrow := h.grown hid (w' := w.drew.alloc (.cells ((xs ++ news).toArray ++ Builtin.zeroCells z.cells (grownCap w (k + n) (σ id).cap e0 - (k + n))) e0)) (els' := els ++ (y0 :: ys0)) (gh := ⟨w.heap.size, grownCap w (k + n) (σ id).cap e0, k + n, 0, 0⟩)
          ⟨rfl, rfl, rfl, by simp, fun b hb' _ => heap_alloc_old w.drew _ b hb'⟩ (by rw [hlen']; omega) hlen'.symm hes (.inr (Nat.le_refl _))
          (fun o v ho hv => cell_block hv (heap_alloc_old w.drew _ _ (Array.getElem?_eq_some_iff.1 hg).1))
          (xs := xs ++ news) ⟨by rw [hl2, hlen'], .inr ⟨w.heap.size, grownCap w (k + n) (σ id).cap e0, _, by rw [hlen'], Nat.zero_le _, heap_alloc_new w.drew _, by rw [hlen']; exact hge, grownCap_le_maxLen w _ _ e0 hml, by
            simp only [Array.size_append, List.size_toArray, size_zeroCells, hzs, hl2, ← Nat.add_mul]
            congr 1; omega, by
            rw [hlen', ← hl2, Array.toList_append]; exact List.take_left⟩⟩ hcr2
        refine opok_of (e := .grow id e0 i.size (els ++ (y0 :: ys0))) (run_v hgr) (.inl rfl) ?_ hgrow
        refine .gr id (k + n) _ (by omega) (by rw [gset_same]; exact Nat.le_refl _) (gset_lv _) (fun _ => by rw [gset_same])
  · cases he
end
end Go.Proofs.Yteibeoipnjhicaa
