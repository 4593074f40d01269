import Derived.Test.YtoibbedpaaeclaaGreatRz0
section
namespace Go.Proofs.YtoibbedpaaeclaaGreat
open Go Go.RowKit
set_option linter.unusedVariables false
set_option linter.unusedSimpArgs false
section
variable {P : Program} {w : World} {M0 : Nat → Nat → Prop} {σ : Nat → Gh} {H : Heap} {m : Nat}
theorem op_indexAddr (h : HR w M0 σ H) {t : TypeId} {v u : Value} {p q r : PV} (hv : VV w M0 σ H v p) (hu : VV w M0 σ H u q) (he : q8b P t p q = some r) : OpOk P w M0 σ H m (do pure (.value (← Instr.indexAt t v u))) r .nop := by
  unfold q8b at he
  split at he
  · rename_i k n
    cases hu
    split at he
    · rename_i e ht
      split at he
      · rename_i els
        split at he
        · rename_i h0
          split at he
          · rename_i c hc
            split at he
            · rename_i hcl
              cases he
              obtain ⟨i, hi⟩ := Option.isSome_iff_exists.1 hcl.2
              have hlt : n.toNat < els.length := (List.getElem?_eq_some_iff.1 hc).1
              rcases q7q hv with ⟨rfl, _⟩ | ⟨b, o, sz, cap, f, rfl, hcp, hs, hcell, hh⟩
              · simp at hlt
              · have hsz : P.cellsOf e = sz := by rw [← hcl.1]; exact hs _ (List.mem_of_getElem? hc)
                refine q2q h (v := .pointer (some ⟨b, o + n.toNat * sz, none⟩)) (q5e ?_) (.ref b _ c (fun j => f (n.toNat * sz + j)) (fun j p hj => ?_) (fun j p hj => hh _ p (q9n hs hc j p hj)))
                · unfold Instr.indexAt
                  simp only [asIntOf, Sem.run_bind, Sem.run_pure, Result.andThen_ok, run_underlying ht]
                  rw [if_pos ⟨h0, by omega⟩]
                  simp only [Sem.run_bind, run_sizeOf w hi, Result.andThen_ok, Sem.run_pure, Addr.add_lit, hsz]
                · have := hcell _ p (q9n hs hc j p hj)
                  rwa [← Nat.add_assoc] at this
            · cases he
          · cases he
        · cases he
      · rename_i id k e1 sz1
        split at he
        · rename_i hb
          cases he
          obtain ⟨i, hi⟩ := Option.isSome_iff_exists.1 hb.2.2
          cases hv with
          | bs _ _ _ _ hL h0 hc _ _ =>
            refine q2q h (v := .pointer (some ⟨(σ id).blk, n.toNat * P.cellsOf e, none⟩)) (q5e ?_) (.ptr id _ hL h0)
            unfold Instr.indexAt
            simp only [asIntOf, Sem.run_bind, Sem.run_pure, Result.andThen_ok, run_underlying ht]
            rw [if_pos ⟨hb.1, by omega⟩]
            simp only [Sem.run_bind, run_sizeOf w hi, Result.andThen_ok, Sem.run_pure, Addr.add_lit, Nat.zero_add]
        · cases he
      · cases he
    · rename_i len e ht
      split at he
      · rename_i hb
        obtain ⟨i, hi⟩ := Option.isSome_iff_exists.1 hb.2.2
        have hrun : ∀ b o, (Instr.indexAt t (.pointer (some ⟨b, o, none⟩)) (.int k n)).run P w = .ok (.pointer (some ⟨b, o + n.toNat * P.cellsOf e, none⟩)) w := by
          intro b o
          unfold Instr.indexAt
          simp only [asIntOf, Sem.run_bind, Sem.run_pure, Result.andThen_ok, run_underlying ht, Instr.sureAddr]
          rw [if_pos ⟨hb.1, hb.2.1⟩]
          simp only [Sem.run_bind, run_sizeOf w hi, Result.andThen_ok, Sem.run_pure, Addr.add_lit]
        split at he
        · rename_i id off
          cases he
          cases hv with
          | ptr _ _ hL h0 => exact q2q h (q5e (hrun _ _)) (.ptr id _ hL h0)
        · rename_i l
          cases he
          cases hv with
          | ref b o _ f hcell hh =>
            refine q2q h (q5e (hrun _ _)) (.ref b _ _ (fun j => f (n.toNat * P.cellsOf e + j)) (fun j p hj => ?_) (fun j p hj => ?_))
            · rw [List.getElem?_drop] at hj
              have := hcell _ p hj
              rwa [← Nat.add_assoc] at this
            · rw [List.getElem?_drop] at hj
              exact hh _ p hj
        · cases he
      · cases he
    · cases he
  · cases he
theorem op_index (h : HR w M0 σ H) {t : TypeId} {v u : Value} {p q r : PV} (hv : VV w M0 σ H v p) (hu : VV w M0 σ H u q) (he : evIndex P t p q = some r) : OpOk P w M0 σ H m (do pure (.value (← Instr.index t v u))) r .nop := by
  unfold evIndex at he
  split at he
  · rename_i k n
    cases hu
    split at he
    · rename_i len e ht
      split at he
      · rename_i l
        split at he
        · rename_i hb
          obtain ⟨i, hi⟩ := Option.isSome_iff_exists.1 hb.2.2
          obtain ⟨cs, rfl, hc⟩ := VR.cells_list hv
          obtain ⟨x, hx, hr, _⟩ := part_sound (P := P) (w := w) hc he
          refine q2q h (q5e ?_) hr
          unfold Instr.index
          simp only [asIntOf, Sem.run_bind, Sem.run_pure, Result.andThen_ok, run_underlying ht]
          rw [if_pos ⟨hb.1, hb.2.1⟩]
          simp only [Sem.run_bind, run_sizeOf w hi, Result.andThen_ok, hx]
        · cases he
      · cases he
    · cases he
  · cases he
theorem fieldOf_ok {t ft o : Nat} {f : Nat} (h : q1p P t f = some (ft, o)) : ∃ fs fd i, P.underlying t = some (.struct fs) ∧ fs[f]? = some fd ∧ fd.type = ft ∧ fd.offset = o ∧ P.info? ft = some i ∧ P.cellsOf ft ≠ 0 := by
  unfold q1p at h
  split at h
  · rename_i fs hu
    split at h
    · rename_i fd hf
      split at h
      · rename_i hc
        cases h
        obtain ⟨b, hb⟩ := Option.isSome_iff_exists.1 hc.1
        obtain ⟨i, hi, _⟩ := info_of hb
        exact ⟨fs, fd, i, hu, hf, rfl, rfl, hi, by omega⟩
      · cases h
    · cases h
  · cases h
theorem run_fieldAt {t ft o f b off : Nat} (h : q1p P t f = some (ft, o)) : (Instr.fieldAt t (.pointer (some ⟨b, off, none⟩)) f).run P w = .ok (.pointer (some ⟨b, off + o, none⟩)) w := by
  obtain ⟨fs, fd, i, hu, hf, rfl, rfl, hi, hn⟩ := fieldOf_ok h
  unfold Instr.fieldAt
  simp only [Sem.run_bind, run_underlying hu, Result.andThen_ok, hf, Instr.sureAddr, Sem.run_pure]
  unfold fieldPlace
  simp only [Sem.run_bind, run_sizeOf w hi, Result.andThen_ok, hn, if_false, Sem.run_pure, Addr.add_lit]
theorem op_fieldAddr (h : HR w M0 σ H) {t ft o f : Nat} {v : Value} {p r : PV} {e : Eff} (hf : q1p P t f = some (ft, o))
    (he : (match p with
      | .ptr id off => some (PV.ptr id (off + o), Eff.nop)
      | .ref l => some (.ref (l.drop o), .nop)
      | _ => none) = some (r, e)) (hv : VV w M0 σ H v p) : OpOk P w M0 σ H m (do pure (.value (← Instr.fieldAt t v f))) r e := by
  cases p with
  | ptr id off =>
    cases he
    cases hv with
    | ptr _ _ hL h0 => exact q2q h (q5e (run_fieldAt hf)) (.ptr id _ hL h0)
  | ref l =>
    cases he
    cases hv with
    | ref b o' _ g hcell hh =>
      refine q2q h (q5e (run_fieldAt hf)) (.ref b _ _ (fun j => g (o + j)) (fun j p hj => ?_) (fun j p hj => ?_))
      · rw [List.getElem?_drop] at hj
        have := hcell _ p hj
        rwa [← Nat.add_assoc] at this
      · rw [List.getElem?_drop] at hj
        exact hh _ p hj
  | _ => cases he
theorem op_field (h : HR w M0 σ H) {t ft o f : Nat} {v : Value} {l : List PV} {r : PV} (hv : VV w M0 σ H v (.agg l)) (hf : q1p P t f = some (ft, o)) (he : cut P ft l o = some r) : OpOk P w M0 σ H m (do pure (.value (← Instr.field t v f))) r .nop := by
  obtain ⟨fs, fd, i, hu, hf2, rfl, rfl, hi, hn⟩ := fieldOf_ok hf
  clear hf
  obtain ⟨cs, rfl, hc⟩ := VR.cells_list hv
  obtain ⟨x, hx, hr, _⟩ := part_sound (P := P) (w := w) hc he
  refine q2q h (q5e ?_) hr
  unfold Instr.field
  simp only [Sem.run_bind, run_underlying hu, Result.andThen_ok, hf2, asAgg, Sem.run_pure, hx]
theorem cr_flat {M L} {b o sz : Nat} {els : List (List PV)} {f : Nat → Value} (hcell : ∀ (q : Nat) (p : PV), els.flatten[q]? = some p → w.cell? ⟨b, o + q, none⟩ = some (f q) ∧ ¬ M b (o + q) ∧ (f q).oneCell' = true)
    (h : ∀ (q : Nat) (p : PV), els.flatten[q]? = some p → VR w M σ L (f q) p) : CR w M σ L ((List.range els.flatten.length).map f) els.flatten ∧ ∀ j v, ((List.range els.flatten.length).map f)[j]? = some v → w.cell? ⟨b, o + j, none⟩ = some v := ref_cells hcell h
/-- What the second argument of an append yields. -/
theorem src_ok {e' tx sz : Nat} (hk : P.underlying tx = some (.slice e')) {v : Value} {ys : List (List PV)} (hv : VV w M0 σ H v (.sl ys)) (hs : ∀ r ∈ ys, r.length = sz) : ∃ news, Src P sz tx v ys.length news w ∧ CR w (MU M0 σ H) σ (LV H) news ys.flatten := by
  rcases q7q hv with ⟨rfl, A, cap, rfl⟩ | ⟨b, o, sz', cap, f, rfl, hc, hs', hcell, hh⟩
  · refine ⟨[], ?_, ⟨rfl, fun v hv => (List.not_mem_nil hv).elim, fun i v p hv => by simp at hv⟩⟩
    cases A with
    | none => exact Src.ofNil w hk cap
    | some a => exact Src.ofSlice w hk a 0 cap [] (by simp) (fun j u hu => by simp at hu) (fun u hu => (List.not_mem_nil hu).elim)
  · obtain ⟨c1, c2⟩ := cr_flat (sz := sz') hcell hh
    refine ⟨_, Src.ofSlice w hk ⟨b, o, none⟩ ys.length cap _ ?_ (fun j u hu => by rw [Addr.add_lit]; exact c2 j u hu) c1.one, c1⟩
    rw [c1.len, q1w hs]
theorem op_append (h : HR w M0 σ H) (hm : H m = none) {t t' ty : TypeId} {vx vy : Value} {x y r : PV} {e : Eff} (hx : VV w M0 σ H vx x) (hy : VV w M0 σ H vy y) (he : q4d P x y H m t t' = some (r, e)) :
    OpOk P w M0 σ H m (do pure (.value (← Builtin.append_ #[t, t'] ty #[vx, vy]))) r e := by
  unfold q4d at he
  split at he
  case h_2 => cases he
  rename_i el ht
  split at he
  case h_2 => cases he
  rename_i el' ht'
  split at he
  case h_2 => cases he
  rename_i sz by_ hei
  obtain ⟨i, z, hi, hz, hsz, hby, hzs, hpos⟩ := q9o hei
  split at he
  case h_2 => cases he
  rename_i ys
  split at he
  case isFalse => cases he
  rename_i hall
  have hys : ∀ r ∈ ys, r.length = sz := fun r hr => by simpa using List.all_eq_true.1 hall r hr
  obtain ⟨news, hsrc, hcr⟩ := src_ok ht' hy hys
  subst hsz; subst hby
  split at he
  · -- nothing yet
    cases hx with
    | nilsl A =>
      split at he
      · cases he
        have hn0 : news = [] := List.eq_nil_of_length_eq_zero (by rw [hsrc.newsLen]; simp)
        subst hn0
        refine q2q h (q5e (v := .slice A 0 0) ?_) (.nilsl A)
        have hk := hsrc.kind
        have hc0 : (Builtin.firstCells i.size 0 vy).run P w = .ok #[] w := by simpa using hsrc.cells
        have hl0 : ∀ w' : World, (Builtin.lenOf vy).run P w' = .ok 0 w' := by simpa using hsrc.len
        have hst : ∀ a : Addr, (storeCells a [] : Sem Unit).run P w = .ok () w := fun a => by simp [storeCells]
        rcases hk with ⟨e'', hk⟩ | hk <;> (cases A <;> simp [Builtin.append_, run_underlying ht, run_underlying hk, sizeOf, typeInfo, hi, hl0, hc0, storeCells])
      · rename_i y0 ys0
        split at he
        case isFalse => cases he
        rename_i hb
        cases he
        obtain ⟨hb, hml⟩ := hb
        obtain ⟨n, hn⟩ : ∃ n, n = (y0 :: ys0).length := ⟨_, rfl⟩
        rw [← hn] at hb hml hsrc
        have hn0 : 0 < n := by rw [hn]; simp
        have h63 : n ≤ 9223372036854775807 := by simp only [maxLen] at hml; omega
        have hgr := run_append_grow_src (P := P) w t t' ty el i z ht hi hz A 0 0 [] (by cases A <;> simp [Builtin.firstCells, loadCells, loadCellsFrom]) vy n news hsrc (by omega) (by omega) (growslice_fits (by omega) (by simpa using hb))
        simp only [Nat.zero_add, List.nil_append] at hgr
        have hbel : Below w.heap.size w (w.drew.alloc (.cells (news.toArray ++ Builtin.zeroCells z.cells (grownCap w n 0 el - n)) el)) := (Below.refl _ _).drew.alloc (by simp) _
        have hmore := h.more hbel hm (.row el i.size (y0 :: ys0)) ⟨w.heap.size, grownCap w n 0 el, n, 0, 0⟩ (Nat.le_refl _) (by simp) (fun l hl => by cases hl) (fun e sz els hl => by
          cases hl
          refine ⟨by simp, hn, hys, news, ⟨by rw [hsrc.newsLen, hn], .inr ⟨w.heap.size, grownCap w n 0 el, _, by rw [hn], Nat.zero_le _, heap_alloc_new w.drew _, by rw [← hn]; exact grownCap_ge w n 0 el, grownCap_le_maxLen w n 0 el hml, ?_, ?_⟩⟩, hcr⟩
          · simp only [Array.size_append, List.size_toArray, size_zeroCells, hzs, hsrc.newsLen, ← Nat.add_mul]
            congr 1
            have := grownCap_ge w n 0 el
            omega
          · simp only [Array.toList_append]
            rw [← hn, ← hsrc.newsLen]
            exact List.take_left)
        rw [← hn]
        refine q5n (e := .born el i.size (y0 :: ys0)) (q5e hgr) (.inl rfl) ?_ hmore
        refine .gr m n _ hn0 (by rw [q1c]; exact Nat.le_refl _) (q6m _) (fun _ => by rw [q1c])
  · rename_i id k
    split at he
    case h_2 => cases he
    rename_i e0 sz0 els hid
    split at he
    case isFalse => cases he
    rename_i hc
    obtain ⟨hk, rfl, rfl⟩ := hc
    obtain ⟨r1, r2, r3, xs, r4, r5⟩ := h.row id _ _ els hid
    have hvx : vx = .slice (some ⟨(σ id).blk, 0, none⟩) k (σ id).cap := by
      cases hx with
      | gr _ _ _ h0 hle hL hh => exact hh (by omega)
    obtain ⟨g, cap, cur, e1, _, hg, hnc, hcm, hcs, htake⟩ : ∃ g cap cur, Value.slice (some ⟨(σ id).blk, 0, none⟩) els.length (σ id).cap = .slice (some ⟨g, 0, none⟩) els.length cap ∧ 0 ≤ g ∧ w.heap[g]? = some (.cells cur e0 (0, 0)) ∧ els.length ≤ cap ∧ cap ≤ maxLen ∧ cur.size = cap * i.size ∧ cur.toList.take (els.length * i.size) = xs := by
      rcases r4.2 with ⟨h1, _⟩ | h1
      · cases h1
      · exact h1
    injection e1 with e1 _ e3
    injection e1 with e1
    injection e1 with e1
    subst e1; subst e3
    split at he
    · cases he
      have hn0 : news = [] := List.eq_nil_of_length_eq_zero (by rw [hsrc.newsLen]; simp)
      subst hn0
      refine q2q h (q5e (v := vx) ?_) hx
      rw [hvx]
      have hk' := hsrc.kind
      have hc0 : (Builtin.firstCells i.size 0 vy).run P w = .ok #[] w := by simpa using hsrc.cells
      have hl0 : ∀ w' : World, (Builtin.lenOf vy).run P w' = .ok 0 w' := by simpa using hsrc.len
      rcases hk' with ⟨e'', hk'⟩ | hk' <;> (rw [← hk]; simp [Builtin.append_, run_underlying ht, run_underlying hk', sizeOf, typeInfo, hi, hl0, hc0, storeCells, hnc])
    · rename_i y0 ys0
      split at he
      case isFalse => cases he
      rename_i hb
      cases he
      obtain ⟨hb, hml⟩ := hb
      obtain ⟨n, hn⟩ : ∃ n, n = (y0 :: ys0).length := ⟨_, rfl⟩
      rw [← hn] at hb hml hsrc
      have hn0 : 0 < n := by rw [hn]; simp
      have hlen' : (els ++ (y0 :: ys0)).length = k + n := by rw [List.length_append, hk, hn]
      have hxs : xs.length = k * i.size := by rw [r4.1, hk]
      have hes : ∀ x ∈ els ++ (y0 :: ys0), x.length = i.size := fun x hx => by
        rcases List.mem_append.1 hx with hx | hx
        · exact r3 x hx
        · exact hys x hx
      have hcr2 : CR w (MU M0 σ H) σ (LV H) (xs ++ news) (els ++ (y0 :: ys0)).flatten := by rw [List.flatten_append]; exact r5.append hcr
      have hl2 : (xs ++ news).length = (k + n) * i.size := by rw [List.length_append, hxs, hsrc.newsLen, Nat.add_mul]
      have hlow0 : ∀ o, o < els.length * i.size → cur[o]? = xs[o]? := fun o ho => by
        rw [← htake, List.getElem?_take, if_pos ho]; simp
      rw [← hn]
      by_cases hroom : k + n ≤ (σ id).cap
      · have hfit : k * i.size + news.length ≤ cur.size := by rw [hsrc.newsLen, hcs, ← Nat.add_mul]; exact Nat.mul_le_mul_right _ hroom
        have hst := run_storeCells_at (P := P) (σ id).blk (k * i.size) e0 news 0 cur w hg (by simpa using hfit) hsrc.one
        simp only [Nat.add_zero] at hst
        have hrun : (Builtin.append_ #[t, t'] ty #[vx, vy]).run P w = .ok (.slice (some ⟨(σ id).blk, 0, none⟩) (k + n) (σ id).cap) (w.setRow (σ id).blk (cur.toList.take (k * i.size) ++ news ++ cur.toList.drop (k * i.size + news.length)).toArray) := by
          rw [hvx]
          rcases hsrc.kind with ⟨e'', hk'⟩ | hk' <;> simp [Builtin.append_, run_underlying ht, run_underlying hk', sizeOf, typeInfo, hi, hsrc.len, hroom, hsrc.cells, Addr.add_lit, hst]
        have htk : cur.toList.take (k * i.size) = xs := by rw [← hk]; exact htake
        have hgrow := h.grown hid (w' := w.setRow (σ id).blk (cur.toList.take (k * i.size) ++ news ++ cur.toList.drop (k * i.size + news.length)).toArray) (els' := els ++ (y0 :: ys0)) (gh := ⟨(σ id).blk, (σ id).cap, k + n, 0, 0⟩)
          ⟨rfl, rfl, rfl, by simp, fun b _ hb' => setRow_other w _ _ _ (fun e' => hb' (by rw [e']))⟩ (by rw [hlen']; omega) hlen'.symm hes (.inl rfl)
          (fun o v ho hv => by
            rw [cell_setRow_same w _ o cur _ e0 (0, 0) hg]
            rw [cell_of_row w _ o cur e0 (0, 0) hg] at hv
            rw [← hv, List.getElem?_toArray, List.append_assoc, htk, List.getElem?_append_left (by rw [hxs, ← hk]; exact ho)]
            exact (hlow0 o ho).symm)
          (xs := xs ++ news) ⟨by rw [hl2, hlen'], .inr ⟨(σ id).blk, (σ id).cap, _, rfl, Nat.zero_le _, setRow_heap w _ cur _ e0 (0, 0) hg, by rw [hlen']; exact hroom, hcm, by
            simp only [List.size_toArray, List.length_append, List.length_take, List.length_drop, Array.length_toList]; omega, by
            rw [hlen', ← hl2, htk]; exact List.take_left⟩⟩ hcr2
        refine q5n (e := .grow id e0 i.size (els ++ (y0 :: ys0))) (q5e hrun) (.inl rfl) ?_ hgrow
        refine .gr id (k + n) _ (by omega) (by rw [q1c]; exact Nat.le_refl _) (q6m _) (fun _ => by rw [q1c])
      · have hold : (Builtin.firstCells i.size k (.slice (some ⟨(σ id).blk, 0, none⟩) k (σ id).cap)).run P w.drew = .ok xs.toArray w.drew := by
          refine run_firstCells_some (P := P) w.drew i.size k _ _ _ xs hxs (fun j u hu => ?_)
          have := r4.cells (g := (σ id).blk) rfl j u hu
          simpa using this
        have hgr := run_append_grow_src (P := P) w t t' ty e0 i z ht hi hz (some ⟨(σ id).blk, 0, none⟩) k (σ id).cap xs hold vy n news hsrc (by omega) (by simp only [maxLen] at hml; omega) (growslice_fits (by omega) hb)
        rw [← hvx] at hgr
        have hge := grownCap_ge w (k + n) (σ id).cap e0
        have hgrow := h.grown hid (w' := w.drew.alloc (.cells ((xs ++ news).toArray ++ Builtin.zeroCells z.cells (grownCap w (k + n) (σ id).cap e0 - (k + n))) e0)) (els' := els ++ (y0 :: ys0)) (gh := ⟨w.heap.size, grownCap w (k + n) (σ id).cap e0, k + n, 0, 0⟩)
          ⟨rfl, rfl, rfl, by simp, fun b hb' _ => heap_alloc_old w.drew _ b hb'⟩ (by rw [hlen']; omega) hlen'.symm hes (.inr (Nat.le_refl _))
          (fun o v ho hv => q5r hv (heap_alloc_old w.drew _ _ (Array.getElem?_eq_some_iff.1 hg).1))
          (xs := xs ++ news) ⟨by rw [hl2, hlen'], .inr ⟨w.heap.size, grownCap w (k + n) (σ id).cap e0, _, by rw [hlen'], Nat.zero_le _, heap_alloc_new w.drew _, by rw [hlen']; exact hge, grownCap_le_maxLen w _ _ e0 hml, by
            simp only [Array.size_append, List.size_toArray, size_zeroCells, hzs, hl2, ← Nat.add_mul]
            congr 1; omega, by
            rw [hlen', ← hl2, Array.toList_append]; exact List.take_left⟩⟩ hcr2
        refine q5n (e := .grow id e0 i.size (els ++ (y0 :: ys0))) (q5e hgr) (.inl rfl) ?_ hgrow
        refine .gr id (k + n) _ (by omega) (by rw [q1c]; exact Nat.le_refl _) (q6m _) (fun _ => by rw [q1c])
  · cases he
end
end Go.Proofs.YtoibbedpaaeclaaGreat
end

section
namespace Go.Proofs.YtoibbedpaaeclaaGreat
open Go Go.RowKit
set_option linter.unusedVariables false
set_option linter.unusedSimpArgs false
section
variable {P : Program} {w : World} {M0 : Nat → Nat → Prop} {σ : Nat → Gh} {H : Heap} {m : Nat}
theorem q9w (h : HR w M0 σ H) {S : Sem Next} {r : PV} {v : Value} (hr : S = pure (.value v)) (hv : VV w M0 σ H v r) : OpOk P w M0 σ H m S r .nop := by
  subst hr; exact q2q h rfl hv
theorem map_rel {ev : Operand → Value} {ρ : Operand → PV} {xs : Array Operand} (hs : ∀ x ∈ xs, VV w M0 σ H (ev x) (ρ x)) : (xs.map ev).toList.length = (xs.toList.map ρ).length ∧
    ∀ (i : Nat) (v : Value) (p : PV), (xs.map ev).toList[i]? = some v → (xs.toList.map ρ)[i]? = some p → VV w M0 σ H v p := by
  obtain ⟨xs⟩ := xs
  refine ⟨by simp, fun i v p hv hp => ?_⟩
  simp only [List.map_toArray, List.getElem?_map] at hv hp
  cases hx : xs[i]? with
  | none => rw [hx] at hp; cases hp
  | some q =>
    rw [hx] at hv hp
    simp only [Option.map_some, Option.some.injEq] at hv hp
    subst hv; subst hp
    exact hs q (by simp only [List.mem_toArray]; exact List.mem_of_getElem? hx)
set_option maxHeartbeats 2000000 in
theorem op_sound (h : HR w M0 σ H) (hm : H m = none) {ev : Operand → Value} {ρ : Operand → PV} {s : PV → PV} {o : Oper} (hρ : ∀ x ∈ o.op.operands, VV w M0 σ H (ev x) (ρ x)) (hs : ∀ x ∈ o.op.operands, VV w M0 σ H (ev x) (s (ρ x))) {r : PV} {e : Eff}
    (he : evOp P ρ s H m o.op = some (r, e)) : OpOk P w M0 σ H m (execOp ev o) r e := by
  obtain ⟨dst, op, ty, pos, after, guard⟩ := o
  simp only at hρ hs he
  unfold evOp at he
  split at he
  · -- move
    rename_i x
    cases he
    exact q9w h rfl (hρ x (by simp [Op.operands]))
  · rename_i x
    cases he
    exact q9w h rfl (hρ x (by simp [Op.operands]))
  · rename_i c a b
    split at he
    · rename_i t hc
      cases he
      have hc' := hρ c (by simp [Op.operands])
      rw [hc] at hc'
      have ec : ev c = .bool t := by generalize hv : ev c = v at hc'; cases hc'; rfl
      refine q9w h (v := if t then ev a else ev b) ?_ ?_
      · simp only [execOp, ec, asBool, pure_bind]
      · cases t
        · exact hρ b (by simp [Op.operands])
        · exact hρ a (by simp [Op.operands])
    · cases he
  · rename_i t
    split at he
    · rename_i l hz; cases he; exact op_alloc h hm hz
    · cases he
  · rename_i t x
    split at he
    · rename_i l hc; cases he; exact op_box h hm (hs x (by simp [Op.operands])) hc
    · cases he
  · rename_i t parts
    rw [Option.map_eq_some_iff] at he
    obtain ⟨r', hr, e'⟩ := he
    cases e'
    exact op_build h (ρ := fun x => s (ρ x)) (fun x hx => hs x (by simpa [Op.operands] using hx)) hr
  · rename_i t n parts
    rw [Option.map_eq_some_iff] at he
    obtain ⟨r', hr, e'⟩ := he
    cases e'
    exact op_buildSlice h (ρ := fun x => s (ρ x)) (fun x hx => hs x (by simpa [Op.operands] using hx)) hr
  · rename_i t a
    exact op_load h he (hρ a (by simp [Op.operands]))
  · rename_i t a x
    split at he
    · rename_i id off ha
      split at he
      · rename_i l hl
        split at he
        · rename_i c hid
          split at he
          · rename_i hc
            cases he
            have ha' := hρ a (by simp [Op.operands])
            rw [ha] at ha'
            exact op_store h ha' (hs x (by simp [Op.operands])) hl hid hc.1 hc.2.1 hc.2.2
          · cases he
        · cases he
      · cases he
    · cases he
  · rename_i x
    have hx := hρ x (by simp [Op.operands])
    split at he
    · rename_i id off hp
      cases he
      rw [hp] at hx
      generalize hv : ev x = v at hx
      cases hx with
      | ptr _ _ hL h0 => exact q9w h (by simp only [execOp, hv]) (.ptr id off hL h0)
    · rename_i l hp
      cases he
      rw [hp] at hx
      generalize hv : ev x = v at hx
      cases hx with
      | ref b o _ f h1 h2 => exact q9w h (by simp only [execOp, hv]) (.ref b o l f h1 h2)
    · rename_i f a b hp
      cases he
      rw [hp] at hx
      generalize hv : ev x = v at hx
      cases hx with
      | fn _ fs cs l1 l2 h1 h2 h3 h4 => exact q9w h (by simp only [execOp, hv]) (.fn _ fs cs _ _ h1 h2 h3 h4)
    · cases he
  · rename_i bop t x y ty'
    rw [Option.map_eq_some_iff] at he
    obtain ⟨r', hr, e'⟩ := he
    cases e'
    obtain ⟨v, h1, h2⟩ := bin_sound bop t (hρ x (by simp [Op.operands])) (hρ y (by simp [Op.operands])) hr x y
    exact q2q h (q5e h1) h2
  · rename_i uop t x
    have hx := hρ x (by simp [Op.operands])
    split at he
    · split at he
      · rename_i b hp
        cases he
        rw [hp] at hx
        generalize hv : ev x = v at hx
        cases hx
        exact q9w h (by simp only [execOp, hv]; rfl) (.bool _)
      · cases he
    · split at he
      · rename_i k n hp
        cases he
        rw [hp] at hx
        generalize hv : ev x = v at hx
        cases hx
        exact q9w h (by simp only [execOp, hv]; rfl) (.int _ _)
      · cases he
    · split at he
      · rename_i k n hp
        rw [hp] at hx
        simp only [eInt, Option.map_some, Option.some.injEq, Prod.mk.injEq] at he
        obtain ⟨rfl, rfl⟩ := he
        generalize hv : ev x = v at hx
        cases hx
        exact q9w h (by simp only [execOp, hv]; rfl) (.int _ _)
      · cases he
    · cases he
  · rename_i src dst' x
    have hx := hρ x (by simp [Op.operands])
    split at he
    · rename_i d1 h1
      split at he
      · rename_i k h2
        split at he
        · rename_i k' n hp
          cases he
          rw [hp] at hx
          generalize hv : ev x = v at hx
          cases hx
          refine q2q h (v := .int k (k.wrap n)) (q5e ?_) (.int _ _)
          rw [hv]
          unfold convert
          rw [Sem.run_bind, run_underlying h1]
          simp only [Result.andThen_ok]
          rw [Sem.run_bind, run_underlying h2]
          simp only [Result.andThen_ok]
          rfl
        · cases he
      · cases he
    · cases he
  · rename_i t x
    split at he
    · cases he
    · rename_i d hd hni
      cases he
      refine q2q h (v := .iface t (ev x)) (q5e ?_) (.ifc t _ _ (hs x (by simp [Op.operands])))
      unfold Instr.makeInterface
      rw [Sem.run_bind, run_underlying hni]
      simp only [Result.andThen_ok]
      rfl
    · cases he
  · rename_i f first cap
    cases he
    obtain ⟨a1, a2⟩ := map_rel (w := w) (M0 := M0) (σ := σ) (H := H) (ev := ev) (ρ := fun x => s (ρ x)) (xs := first) (fun x hx => hs x (by simp [Op.operands, hx]))
    obtain ⟨b1, b2⟩ := map_rel (w := w) (M0 := M0) (σ := σ) (H := H) (ev := ev) (ρ := fun x => s (ρ x)) (xs := cap) (fun x hx => hs x (by simp [Op.operands, hx]))
    refine q2q h (v := .func f (first.map ev) (cap.map ev)) (q5e rfl) ?_
    have := VR.fn (w := w) (M := MU M0 σ H) (σ := σ) (L := LV H) f (first.map ev).toList (cap.map ev).toList _ _ a1 b1 a2 b2
    simp only [Array.toArray_toList] at this
    exact this
  · rename_i t x y
    rw [Option.map_eq_some_iff] at he
    obtain ⟨r', hr, e'⟩ := he
    cases e'
    exact op_make h (hρ x (by simp [Op.operands])) (hρ y (by simp [Op.operands])) hr
  · rename_i t x lo hi
    rw [Option.map_eq_some_iff] at he
    obtain ⟨r', hr, e'⟩ := he
    cases e'
    refine op_slice h (hs x (by simp [Op.operands])) (plo := lo.map ρ) (phi := hi.map ρ) ?_ (fun e => ?_) ?_ (fun e => ?_) hr
    · intro v hv
      cases lo with
      | none => cases hv
      | some y => cases hv; exact ⟨ρ y, rfl, hρ y (by simp [Op.operands])⟩
    · cases lo with
      | none => rfl
      | some y => cases e
    · intro v hv
      cases hi with
      | none => cases hv
      | some y => cases hv; exact ⟨ρ y, rfl, hρ y (by simp [Op.operands])⟩
    · cases hi with
      | none => rfl
      | some y => cases e
  · rename_i t x f
    split at he
    · rename_i ft o' hf
      exact op_fieldAddr h hf he (hρ x (by simp [Op.operands]))
    · cases he
  · rename_i t x f
    split at he
    · rename_i ft o' hf
      split at he
      · rename_i l hp
        rw [Option.map_eq_some_iff] at he
        obtain ⟨r', hr, e'⟩ := he
        cases e'
        have hx := hρ x (by simp [Op.operands])
        rw [hp] at hx
        exact op_field h hx hf hr
      · cases he
    · cases he
  · rename_i t x i
    rw [Option.map_eq_some_iff] at he
    obtain ⟨r', hr, e'⟩ := he
    cases e'
    exact op_indexAddr h (hs x (by simp [Op.operands])) (hρ i (by simp [Op.operands])) hr
  · rename_i t x i
    rw [Option.map_eq_some_iff] at he
    obtain ⟨r', hr, e'⟩ := he
    cases e'
    exact op_index h (hρ x (by simp [Op.operands])) (hρ i (by simp [Op.operands])) hr
  · rename_i x i
    split at he
    · rename_i l hp
      rw [Option.map_eq_some_iff] at he
      obtain ⟨r', hr, e'⟩ := he
      cases e'
      have hx := hρ x (by simp [Op.operands])
      rw [hp] at hx
      generalize hv : ev x = v at hx
      cases hx with
      | tup cs _ hl hh =>
        have hi : i < cs.length := by rw [hl]; exact (List.getElem?_eq_some_iff.1 hr).1
        refine q9w h (v := cs[i]) ?_ (hh i _ _ (List.getElem?_eq_getElem hi) hr)
        simp only [execOp, hv, Instr.extract, List.getElem?_toArray, List.getElem?_eq_getElem hi]
        rfl
    · cases he
  · rename_i x xt t
    split at he
    · rename_i t' p hp
      split at he
      · rename_i htt
        obtain ⟨hi, htt⟩ := htt
        cases he
        subst htt
        have hx := hρ x (by simp [Op.operands])
        rw [hp] at hx
        generalize hv : ev x = v at hx
        cases hx with
        | ifc _ v0 _ hv0 =>
        refine q2q h (v := .tuple #[v0, .bool true]) ?_ (.tup [v0, .bool true] _ rfl fun i v q h1 h2 => ?_)
        · unfold ifcT at hi
          cases hu : P.underlying t' with
          | none => rw [hu] at hi; cases hi
          | some d =>
            rw [hu] at hi
            simp only [execOp, hv, Instr.typeAssert, Sem.run_bind, run_underlying hu, Result.andThen_ok, Sem.run_pure]
            cases d <;> first | (simp at hi; done) | simp
        · match i with
          | 0 => cases h1; cases h2; exact hv0
          | 1 => cases h1; cases h2; exact .bool _
          | i + 2 => simp at h1
      · cases he
    · cases he
  · rename_i c
    split at he
    · rename_i hc
      split at he
      · rename_i x t hx ht
        split at he
        · rename_i hn
          rw [Option.map_eq_some_iff] at he
          obtain ⟨r', hr, e'⟩ := he
          cases e'
          have hargs : c.args = #[x] := by
            obtain ⟨callee, args, ats⟩ := c
            obtain ⟨args⟩ := args
            simp only [List.size_toArray] at hn
            obtain ⟨y, rfl⟩ := List.length_eq_one_iff.1 hn
            simp at hx; subst hx; rfl
          have hv := hs x (by simp [Op.operands, Call.operands, hc, hargs])
          have hv0 := hρ x (by simp [Op.operands, Call.operands, hc, hargs])
          have key : ∃ v, (Builtin.len_ c.argTypes ty #[ev x]).run P w = .ok v w ∧ VV w M0 σ H v r := by
            unfold Builtin.len_
            simp only [ht, List.getElem?_toArray, List.getElem?_cons_zero]
            unfold evLenG at hr
            split at hr
            · rename_i id k hp
              split at hr
              · rename_i e0 hu
                split at hr
                · rename_i e1 sz1 els hid
                  split at hr
                  · rename_i hk
                    cases hr
                    rw [Sem.run_bind, run_underlying hu]
                    simp only [Result.andThen_ok]
                    rw [hp] at hv0
                    have hrow := h.row id e1 sz1 els hid
                    generalize ev x = vv at hv0
                    cases hv0 with
                    | gr _ _ _ h0 hle hL hvv => rw [hvv (by rw [hrow.2.1, hk]), hk]; exact ⟨_, rfl, .int _ _⟩
                  · cases hr
                · cases hr
              · cases hr
            unfold evLen at hr
            split at hr
            · rename_i e0 hu
              split at hr
              · rename_i els hp
                cases hr
                rw [Sem.run_bind, run_underlying hu]
                simp only [Result.andThen_ok]
                rw [hp] at hv
                rcases q7q hv with ⟨rfl, A, cap, hvv⟩ | ⟨b, o, sz, cap, f, hvv, _⟩
                · rw [hvv]; exact ⟨_, rfl, .int _ _⟩
                · rw [hvv]; exact ⟨_, rfl, .int _ _⟩
              · rename_i id n e1 sz1 hp
                cases hr
                rw [Sem.run_bind, run_underlying hu]
                simp only [Result.andThen_ok]
                rw [hp] at hv
                generalize ev x = vv at hv
                cases hv with
                | bs _ _ _ _ hL h0 hc _ _ => exact ⟨_, rfl, .int _ _⟩
              · rename_i hp
                cases hr
                rw [Sem.run_bind, run_underlying hu]
                simp only [Result.andThen_ok]
                rw [hp] at hv
                generalize ev x = vv at hv
                cases hv with
                | bz => exact ⟨_, rfl, .int _ _⟩
              · cases hr
            · rename_i n e0 hu
              cases hr
              rw [Sem.run_bind, run_underlying hu]
              simp only [Result.andThen_ok]
              exact ⟨_, rfl, .int _ _⟩
            · cases hr
          obtain ⟨v, h1, h2⟩ := key
          refine q2q h (v := v) ?_ h2
          simp only [execOp, resolve, hc, hargs, invoke, builtin, pure_bind, List.map_toArray, List.map_cons, List.map_nil, Sem.run_bind, h1, Result.andThen_ok, Sem.run_pure]
        · cases he
      · cases he
    · rename_i hc
      split at he
      · rename_i x y t t' ha hts
        have hargs : c.args = #[x, y] := by rw [← Array.toArray_toList (xs := c.args), ha]
        have htys : c.argTypes = #[t, t'] := by rw [← Array.toArray_toList (xs := c.argTypes), hts]
        have := op_append (P := P) (ty := ty) h hm (hρ x (by simp [Op.operands, Call.operands, hc, hargs])) (hs y (by simp [Op.operands, Call.operands, hc, hargs])) he
        have e1 : execOp ev { dst := dst, op := .call c, type := ty, pos := pos, after := after, guard := guard } = (do pure (.value (← Builtin.append_ #[t, t'] ty #[ev x, ev y]))) := by
          simp only [execOp, resolve, hc, hargs, htys, invoke, builtin, pure_bind, List.map_toArray, List.map_cons, List.map_nil]
        rw [e1]; exact this
      · cases he
    · rename_i hc
      split at he
      · rename_i x y ha
        have hargs : c.args = #[x, y] := by rw [← Array.toArray_toList (xs := c.args), ha]
        rw [Option.map_eq_some_iff] at he
        obtain ⟨r', hr, e'⟩ := he
        cases e'
        have hx := hs x (by simp [Op.operands, Call.operands, hc, hargs])
        have hy := hs y (by simp [Op.operands, Call.operands, hc, hargs])
        generalize s (ρ x) = p at hr hx
        generalize s (ρ y) = q at hr hy
        unfold evMin at hr
        split at hr
        · rename_i k a k' b
          split at hr
          · rename_i hk
            subst hk
            cases hr
            generalize hex : ev x = u at hx
            generalize hey : ev y = v at hy
            cases hx
            cases hy
            refine q2q h (v := .int k (if b < a then b else a)) ?_ (.int _ _)
            simp [execOp, resolve, hc, hargs, invoke, builtin, hex, hey, Builtin.min_, Builtin.min2]
          · cases hr
        · cases hr
      · cases he
    · rename_i hc
      split at he
      · rename_i x y ha
        have hargs : c.args = #[x, y] := by rw [← Array.toArray_toList (xs := c.args), ha]
        rw [Option.map_eq_some_iff] at he
        obtain ⟨r', hr, e'⟩ := he
        cases e'
        have hx := hs x (by simp [Op.operands, Call.operands, hc, hargs])
        have hy := hs y (by simp [Op.operands, Call.operands, hc, hargs])
        generalize s (ρ x) = p at hr hx
        generalize s (ρ y) = q at hr hy
        unfold evMax at hr
        split at hr
        · rename_i k a k' b
          split at hr
          · rename_i hk
            subst hk
            cases hr
            generalize hex : ev x = u at hx
            generalize hey : ev y = v at hy
            cases hx
            cases hy
            refine q2q h (v := .int k (if b > a then b else a)) ?_ (.int _ _)
            simp [execOp, resolve, hc, hargs, invoke, builtin, hex, hey, Builtin.max_, Builtin.max2]
          · cases hr
        · cases hr
      · cases he
    · cases he
  · cases he
theorem op_makeB (h : HR w M0 σ H) (hm : H m = none) {t e0 : TypeId} {v u : Value} {p q : PV} {els : List (List PV)} (hv : VV w M0 σ H v p) (hu : VV w M0 σ H u q) (he : evMake P t p q = some (.sl els)) (ht0 : P.underlying t = some (.slice e0)) : OpOk P w M0 σ H m (do pure (.value (← Instr.makeSlice t v u))) (.bs m els.length e0 (P.cellsOf e0)) (.new els.flatten) := by
  unfold evMake at he
  split at he
  · rename_i e ht
    split at he
    · rename_i sz by_ zl hei hzl
      split at he
      · rename_i k a
        split at he
        · rename_i k' b
          split at he
          · rename_i hc
            cases he
            obtain ⟨rfl, h0, hby, h63⟩ := hc
            cases hv; cases hu
            obtain ⟨ie, z, hie, hz, hsz, hby', hzs, hpos⟩ := q9o hei
            obtain ⟨n, rfl⟩ := Int.eq_ofNat_of_zero_le h0
            simp only [Int.toNat_natCast]
            obtain rfl : e0 = e := by rw [ht] at ht0; cases ht0; rfl
            have hce : P.cellsOf e0 = ie.size := by simp [Program.cellsOf, hie]
            have hcz : CR w (MU M0 σ H) σ (LV H) z.cells.toList zl := by
              unfold zeros at hzl
              simp only [hie, hz] at hzl
              split at hzl
              · rename_i ho; cases hzl; exact cr_cv0 _ ho
              · cases hzl
            have hzl' : zl.length = sz := by rw [← hcz.len, Array.length_toList, hzs]
            have hl1 : (List.replicate n zl).flatten.length = n * sz := by
              rw [q1w (sz := sz) (fun e he => by rw [List.eq_of_mem_replicate he]; exact hzl')]; simp
            have hc0 : CR w (MU M0 σ H) σ (LV H) (madeCells z.cells (n * ie.size)).toList (List.replicate n zl).flatten := by
              refine ⟨by rw [hl1, Array.length_toList, size_madeCells, hsz], fun v hv => ?_, fun i v p hv hp => ?_⟩
              · simp only [madeCells, Array.toList_map, Array.toList_range, List.mem_map] at hv
                obtain ⟨q, _, rfl⟩ := hv
                have hlt : q % z.cells.size < z.cells.size := Nat.mod_lt _ (by omega)
                rw [getElem!_pos z.cells _ hlt]
                exact hcz.one _ (by simp)
              · have hi : i < n * sz := by rw [← hl1]; exact (List.getElem?_eq_some_iff.1 hp).1
                simp only [madeCells, Array.toList_map, Array.toList_range, List.getElem?_map] at hv
                rw [List.getElem?_range (by rw [hsz]; exact hi)] at hv
                simp only [Option.map_some, Option.some.injEq] at hv
                have hlt : i % z.cells.size < z.cells.size := Nat.mod_lt _ (by omega)
                rw [getElem!_pos z.cells _ hlt] at hv
                rw [repl_get zl n i (by rw [hzl']; exact hi), hzl'] at hp
                obtain ⟨v', hv', hr', _⟩ := hcz.get hp
                have : z.cells[i % z.cells.size] = v' := by
                  have h2 : z.cells.toList[i % sz]? = some z.cells[i % z.cells.size] := by
                    rw [Array.getElem?_toList, Array.getElem?_eq_some_iff]
                    exact ⟨by rw [hzs]; exact Nat.mod_lt _ hpos, by simp only [hzs]⟩
                  rw [hv'] at h2; exact (Option.some.inj h2).symm
                rw [← hv, this]; exact hr'
            have hrun := run_make (P := P) w t e0 ie z ht hie hz k k' (n : Int) (n : Int) (by omega) (Int.le_refl _) (by rw [hby']; exact hby) h63
            simp only [Int.toNat_natCast] at hrun
            rw [List.length_replicate]
            rw [hce]
            refine q5n (e := .new _) (q5e hrun) (.inl rfl) ?_ (h.new hm _ e0 _ hc0 n ie.size (size_madeCells _ _) (by simp only [maxLen]; omega))
            have := VR.bs (w := w.alloc (.cells (madeCells z.cells (n * ie.size)) e0)) (M := MU M0 (gset σ m ⟨w.heap.size, n, 0, e0, ie.size⟩) (hset H m (some (.box (List.replicate n zl).flatten)))) (σ := gset σ m ⟨w.heap.size, n, 0, e0, ie.size⟩) (L := LV (hset H m (some (.box (List.replicate n zl).flatten)))) m n e0 ie.size (q6m _) (by rw [q1c]) (by rw [q1c]; exact Nat.le_refl _) (by rw [q1c]) (by rw [q1c])
            rw [q1c] at this
            exact this
          · cases he
        · cases he
      · cases he
    · cases he
  · cases he
theorem op_appendB (h : HR w M0 σ H) (hm : H m = none) {t t' ty : TypeId} {vx vy : Value} {y : PV} {id n e0 sz0 : Nat} {ys : List (List PV)} (hx : VV w M0 σ H vx .nilsl) (hy : VV w M0 σ H vy y) (he : q4d P .nilsl y H m t t' = some (.gr id n, .born e0 sz0 ys)) :
    OpOk P w M0 σ H m (do pure (.value (← Builtin.append_ #[t, t'] ty #[vx, vy]))) (.bs m n e0 sz0) (.new ys.flatten) := by
  unfold q4d at he
  split at he
  case h_2 => cases he
  rename_i el ht
  split at he
  case h_2 => cases he
  rename_i el' ht'
  split at he
  case h_2 => cases he
  rename_i sz by_ hei
  obtain ⟨i, z, hi, hz, hsz, hby, hzs, hpos⟩ := q9o hei
  split at he
  case h_2 => cases he
  rename_i ys'
  split at he
  case isFalse => cases he
  rename_i hall
  have hys : ∀ r ∈ ys', r.length = sz := fun r hr => by simpa using List.all_eq_true.1 hall r hr
  obtain ⟨news, hsrc, hcr⟩ := src_ok ht' hy hys
  subst hsz; subst hby
  cases hx with
  | nilsl A =>
    simp only at he
    split at he
    · cases he
    · rename_i y0 ys0
      split at he
      case isFalse => cases he
      rename_i hb
      simp only [Option.some.injEq, Prod.mk.injEq, PV.gr.injEq, Eff.born.injEq] at he
      obtain ⟨⟨_, hn⟩, rfl, rfl, rfl⟩ := he
      obtain ⟨hb, hml⟩ := hb
      rw [hn] at hb hml hsrc
      have hn0 : 0 < n := by rw [← hn]; simp
      have h63 : n ≤ 9223372036854775807 := by simp only [maxLen] at hml; omega
      have hgr := run_append_grow_src (P := P) w t t' ty el i z ht hi hz A 0 0 [] (by cases A <;> simp [Builtin.firstCells, loadCells, loadCellsFrom]) vy n news hsrc (by omega) (by omega) (growslice_fits (by omega) (by simpa using hb))
      simp only [Nat.zero_add, List.nil_append] at hgr
      have hbel : Below w.heap.size w (w.drew.alloc (.cells (news.toArray ++ Builtin.zeroCells z.cells (grownCap w n 0 el - n)) el)) := (Below.refl _ _).drew.alloc (by simp) _
      have hge := grownCap_ge w n 0 el
      have hmore := h.more hbel hm (.box (y0 :: ys0).flatten) ⟨w.heap.size, grownCap w n 0 el, 0, el, i.size⟩ (Nat.le_refl _) (by simp) (fun l hl => by
        cases hl
        refine ⟨rfl, _, el, heap_alloc_new w.drew _, ⟨rfl, ?_, grownCap_le_maxLen w n 0 el hml⟩, ?_⟩
        · simp only [Array.size_append, List.size_toArray, size_zeroCells, hzs, hsrc.newsLen, ← Nat.add_mul]
          congr 1
          omega
        rw [← hcr.len]
        simp only [Array.toList_append]
        rw [List.take_left]
        exact hcr) (fun e sz els hl => by cases hl)
      refine q5n (e := .new (y0 :: ys0).flatten) (q5e hgr) (.inl rfl) ?_ hmore
      have := VR.bs (w := w.drew.alloc (.cells (news.toArray ++ Builtin.zeroCells z.cells (grownCap w n 0 el - n)) el)) (M := MU M0 (gset σ m ⟨w.heap.size, grownCap w n 0 el, 0, el, i.size⟩) (hset H m (some (.box (y0 :: ys0).flatten)))) (σ := gset σ m ⟨w.heap.size, grownCap w n 0 el, 0, el, i.size⟩) (L := LV (hset H m (some (.box (y0 :: ys0).flatten)))) m n el i.size (q6m _) (by rw [q1c]) (by rw [q1c]; exact hge) (by rw [q1c]) (by rw [q1c])
      rw [q1c] at this
      exact this
theorem op_copy (h : HR w M0 σ H) {t t' ty e id n e1 sz1 : Nat} {vx vy : Value} {ys : List (List PV)} {c : List PV} (hx : VV w M0 σ H vx (.bs id n e1 sz1)) (hy : VV w M0 σ H vy (.sl ys)) (ht : P.underlying t = some (.slice e)) (hid : H id = some (.box c)) (hys : ∀ r ∈ ys, r.length = P.cellsOf e) (hie : (P.info? e).isSome = true) (hc : n * P.cellsOf e ≤ c.length) :
    OpOk P w M0 σ H m (do pure (.value (← Builtin.copy_ #[t, t'] ty #[vx, vy]))) (.int .i64 (min ys.length n : Nat)) (.put id 0 (ys.take (min ys.length n)).flatten) := by
  obtain ⟨i, hi⟩ := Option.isSome_iff_exists.1 hie
  have hsz : P.cellsOf e = i.size := by simp [Program.cellsOf, hi]
  cases hx with
  | bs _ _ _ _ hL h0 hcap _ _ =>
    obtain ⟨_, cs, t0, hg, _, hcs⟩ := h.box id c hid
    have hcl : c.length ≤ cs.toList.length := by have := hcs.len; rw [List.length_take] at this; omega
    obtain ⟨A, cap', vals, hvy, hvl, hcr⟩ : ∃ (A : Option Addr) (cap' : Nat) (vals : List Value), vy = .slice A ys.length cap' ∧ (∀ k, k ≤ ys.length → (Builtin.firstCells i.size k vy).run P w = .ok (vals.take (k * i.size)).toArray w) ∧ CR w (MU M0 σ H) σ (LV H) vals ys.flatten := by
      rcases q7q hy with ⟨rfl, A, cap, rfl⟩ | ⟨b, o, sz', cap, f, rfl, hc, hs', hcell, hh⟩
      · refine ⟨A, cap, [], rfl, fun k hk => ?_, ⟨rfl, fun v hv => (List.not_mem_nil hv).elim, fun i v p hv => by simp at hv⟩⟩
        have : k = 0 := by simpa using hk
        subst this
        cases A <;> simp [Builtin.firstCells, loadCells, loadCellsFrom]
      · obtain ⟨c1, c2⟩ := cr_flat (sz := sz') hcell hh
        refine ⟨_, cap, _, rfl, fun k hk => ?_, c1⟩
        refine run_firstCells_some w i.size k ⟨b, o, none⟩ ys.length cap _ ?_ (fun j u hu => ?_)
        · rw [List.length_take, c1.len, q1w hys, hsz]
          exact Nat.min_eq_left (Nat.mul_le_mul_right _ hk)
        · rw [List.getElem?_take] at hu
          split at hu
          · rw [Addr.add_lit]; exact c2 j u hu
          · cases hu
    subst hvy
    obtain ⟨k, hk⟩ : ∃ k, k = min ys.length n := ⟨_, rfl⟩
    have hk1 : k ≤ ys.length := by omega
    have hk2 : k ≤ n := by omega
    have hfl : (ys.take k).flatten.length = k * i.size := by rw [q1w (sz := i.size) (fun e he => by rw [← hsz]; exact hys e (List.mem_of_mem_take he)), List.length_take, Nat.min_eq_left hk1]
    have hft : (ys.take k).flatten = ys.flatten.take (k * i.size) := by
      conv => rhs; rw [← List.take_append_drop k ys, List.flatten_append]
      rw [List.take_left' hfl]
    have hcr2 : CR w (MU M0 σ H) σ (LV H) (vals.take (k * i.size)) (ys.take k).flatten := by
      rw [hft]
      have := hcr.cut 0 (k * i.size)
      simpa using this
    have hfit : 0 + (ys.take k).flatten.length ≤ c.length := by rw [hfl, Nat.zero_add, ← hsz]; exact Nat.le_trans (Nat.mul_le_mul_right _ hk2) hc
    have hst := run_storeCells_at (P := P) (σ id).blk 0 t0 (vals.take (k * i.size)) 0 cs w hg (by rw [hcr2.len, ← Array.length_toList (xs := cs)]; omega) hcr2.one
    have hput := h.put hid hg (l' := splice c 0 (ys.take k).flatten) (c' := (splice cs.toList 0 (vals.take (k * i.size))).toArray) (q2v _ _ _ hfit) (by rw [List.size_toArray, q2v _ _ _ (by rw [hcr2.len]; omega), Array.length_toList]) (by rw [q2v _ _ _ hfit, List.toList_toArray, x0a _ _ _ _ (by rw [hcr2.len]; exact hfit) hcl]; exact hcs.splice hcr2 hfit)
    have happ : Eff.app m H (.put id 0 (ys.take k).flatten) = hset H id (some (.box (splice c 0 (ys.take k).flatten))) := by simp [Eff.app, hid]
    rw [← hk]
    refine q5n (e := .put id 0 (ys.take k).flatten) (n := .value (.int .i64 (k : Nat))) (v := .int .i64 (k : Nat)) (σ' := σ) (w' := w.setRow (σ id).blk (splice cs.toList 0 (vals.take (k * i.size))).toArray) (q5e ?_) (.inl rfl) (.int _ _) (by rw [happ]; exact hput)
    have hmin : Nat.min ys.length n = k := hk.symm
    have hcells := hvl k hk1
    have hst' : (storeCells ⟨(σ id).blk, 0, none⟩ (vals.take (k * i.size))).run P w = .ok () (w.setRow (σ id).blk (splice cs.toList 0 (vals.take (k * i.size))).toArray) := by
      simp only [Nat.add_zero] at hst; exact hst
    simp [Builtin.copy_, run_underlying ht, Builtin.lenOf, hmin, sizeOf, typeInfo, hi, hcells, hst', goInt]
theorem op_storeG (h : HR w M0 σ H) {t : TypeId} {va vx : Value} {id off j k e sz : Nat} {els : List (List PV)} {c : List PV} (ha : VV w M0 σ H va (.ptr id off)) (hx : VV w M0 σ H vx (.gr j k)) (hj : H j = some (.row e sz els)) (hk : els.length = k) (hid : H id = some (.box c))
    (h1 : P.cellsOf t = 1) (h2 : (P.info? t).isSome = true) (h3 : off + 1 ≤ c.length) : OpOk P w M0 σ H m (do (Instr.storeAt t va vx); pure .skip) .undef (.put id off [.gr j k]) := by
  have hr := h.row j e sz els hj
  have hsl : vx = .slice (some ⟨(σ j).blk, 0, none⟩) k (σ j).cap := by
    have hx' := hx
    cases hx' with
    | gr _ _ _ h0 hle hL hv => exact hv (by rw [hr.2.1, hk])
  have hcr : CR w (MU M0 σ H) σ (LV H) vx.cells.toList [.gr j k] := by
    rw [hsl] at hx ⊢
    refine ⟨rfl, fun v hv => ?_, fun i v p hv hp => ?_⟩
    · simp [Value.cells] at hv; subst hv; rfl
    · cases i with
      | zero => simp [Value.cells] at hv hp; subst hv; subst hp; exact hx
      | succ i => simp [Value.cells] at hv
  have hl : ([.gr j k] : List PV).length = P.cellsOf t := by rw [h1]; rfl
  obtain ⟨i, hi⟩ := Option.isSome_iff_exists.1 h2
  have h3' : off + ([.gr j k] : List PV).length ≤ c.length := h3
  generalize ([.gr j k] : List PV) = l at hcr hl h3' ⊢
  cases ha with
  | ptr _ _ hL h0 =>
    obtain ⟨_, cs, t', hg, _, hcs⟩ := h.box id c hid
    have hcl : c.length ≤ cs.toList.length := by have := hcs.len; rw [List.length_take] at this; omega
    have hst := run_storeCells_at (P := P) (σ id).blk off t' vx.cells.toList 0 cs w hg (by rw [hcr.len, ← Array.length_toList (xs := cs)]; omega) hcr.one
    have happ : Eff.app m H (.put id off l) = hset H id (some (.box (splice c off l))) := by simp [Eff.app, hid]
    have hput := h.put hid hg (l' := splice c off l) (c' := (splice cs.toList off vx.cells.toList).toArray) (q2v _ _ _ h3') (by rw [List.size_toArray, q2v _ _ _ (by rw [hcr.len]; omega), Array.length_toList]) (by rw [q2v _ _ _ h3', List.toList_toArray, x0a _ _ _ _ (by rw [hcr.len]; exact h3') hcl]; exact hcs.splice hcr h3')
    refine q5n (e := .put id off l) (n := .skip) (v := undef) (σ' := σ) (w' := w.setRow (σ id).blk (splice cs.toList off vx.cells.toList).toArray) (run_u ?_) (.inr ⟨rfl, rfl⟩) (by rw [happ]; exact .undef) (by rw [happ]; exact hput)
    have hsz : vx.cells.size = P.cellsOf t := by rw [← Array.length_toList, hcr.len, hl]
    simp only [Instr.storeAt, Instr.sureAddr, Sem.run_bind, Sem.run_pure, Result.andThen_ok, storeVar, run_sizeOf w hi, hsz, ne_eq, not_true_eq_false, if_false]
    simp only [Nat.add_zero] at hst
    exact hst
theorem op_allocN (h : HR w M0 σ H) (hm : H m = none) {t : TypeId} (hz : nilz P t = true) : OpOk P w M0 σ H m (do pure (.value (← Instr.alloc t true (.tuple #[])))) (.ptr m 0) (.new [.nilsl]) := by
  unfold nilz at hz
  split at hz
  · rename_i i hi
    split at hz
    · rename_i hzi
      have h1 : (zeroValue t).run P w = .ok (.slice none 0 0) w := by simp [zeroValue, typeInfo, hi, hzi]
      refine op_new h hm (c := (Value.slice none 0 0).cells) (t := t) ?_ ⟨rfl, fun v hv => ?_, fun i v p hv hp => ?_⟩
      · unfold Instr.alloc
        simp [Sem.run_bind, h1, newVar, newRow]
      · simp [Value.cells] at hv; subst hv; rfl
      · cases i with
        | zero => simp [Value.cells] at hv hp; subst hv; subst hp; exact .nilsl _
        | succ i => simp [Value.cells] at hv
    · cases hz
  · cases hz
set_option maxHeartbeats 2000000 in
theorem bs_sound (h : HR w M0 σ H) (hm : H m = none) {ev : Operand → Value} {ρ : Operand → PV} {s : PV → PV} {o : Oper} (hρ : ∀ x ∈ o.op.operands, VV w M0 σ H (ev x) (ρ x)) (hs : ∀ x ∈ o.op.operands, VV w M0 σ H (ev x) (s (ρ x))) {r : PV} {e : Eff}
    (he : evBs P ρ s H m o.op = some (r, e)) : OpOk P w M0 σ H m (execOp ev o) r e := by
  obtain ⟨dst, op, ty, pos, after, guard⟩ := o
  simp only at hρ hs he
  unfold evBs at he
  split at he
  · rename_i t
    split at he
    · rename_i hz
      cases he
      exact op_allocN h hm hz
    · cases he
  · rename_i t a x
    split at he
    · rename_i id off ha
      split at he
      · rename_i j k hx
        split at he
        · rename_i e0 sz0 els hj
          split at he
          · rename_i c hid
            split at he
            · rename_i hc
              cases he
              have ha' := hρ a (by simp [Op.operands])
              rw [ha] at ha'
              have hx' := hρ x (by simp [Op.operands])
              rw [hx] at hx'
              exact op_storeG h ha' hx' hj hc.1 hid hc.2.1 hc.2.2.1 hc.2.2.2
            · cases he
          · cases he
        · cases he
      · cases he
    · cases he
  · rename_i t x y
    split at he
    · rename_i e0 ht0
      split at he
      · rename_i els hmk
        cases he
        exact op_makeB h hm (hρ x (by simp [Op.operands])) (hρ y (by simp [Op.operands])) hmk ht0
      · cases he
    · cases he
  · rename_i t n parts
    split at he
    · rename_i els hmk
      split at he
      · rename_i e0 ht0
        cases he
        exact op_buildB h hm (ρ := fun x => s (ρ x)) (fun x hx => hs x (by simpa [Op.operands] using hx)) hmk ht0
      · cases he
    · cases he
  · rename_i c
    split at he
    · rename_i hc
      split at he
      · rename_i x y t t' ha hts
        have hargs : c.args = #[x, y] := by rw [← Array.toArray_toList (xs := c.args), ha]
        have htys : c.argTypes = #[t, t'] := by rw [← Array.toArray_toList (xs := c.argTypes), hts]
        have e1 : execOp ev { dst := dst, op := .call c, type := ty, pos := pos, after := after, guard := guard } = (do pure (.value (← Builtin.append_ #[t, t'] ty #[ev x, ev y]))) := by
          simp only [execOp, resolve, hc, hargs, htys, invoke, builtin, pure_bind, List.map_toArray, List.map_cons, List.map_nil]
        split at he
        · rename_i hx
          split at he
          · rename_i id n e0 sz0 ys hap
            cases he
            have h1 := hρ x (by simp [Op.operands, Call.operands, hc, hargs])
            rw [hx] at h1
            rw [e1]
            exact op_appendB h hm h1 (hs y (by simp [Op.operands, Call.operands, hc, hargs])) hap
          · cases he
        · cases he
      · cases he
    · rename_i hc
      split at he
      · rename_i x y t t' ha hts
        have hargs : c.args = #[x, y] := by rw [← Array.toArray_toList (xs := c.args), ha]
        have htys : c.argTypes = #[t, t'] := by rw [← Array.toArray_toList (xs := c.argTypes), hts]
        have e1 : execOp ev { dst := dst, op := .call c, type := ty, pos := pos, after := after, guard := guard } = (do pure (.value (← Builtin.copy_ #[t, t'] ty #[ev x, ev y]))) := by
          simp only [execOp, resolve, hc, hargs, htys, invoke, builtin, pure_bind, List.map_toArray, List.map_cons, List.map_nil]
        split at he
        · rename_i id n q1 z1 hx
          split at he
          · rename_i e0 ht
            split at he
            · rename_i ys hy
              split at he
              · rename_i c0 hid
                split at he
                · rename_i hb
                  cases he
                  have h1 := hρ x (by simp [Op.operands, Call.operands, hc, hargs])
                  rw [hx] at h1
                  have h2 := hs y (by simp [Op.operands, Call.operands, hc, hargs])
                  rw [hy] at h2
                  rw [e1]
                  exact op_copy h h1 h2 ht hid (fun r hr => by simpa using List.all_eq_true.1 hb.1 r hr) hb.2.1 hb.2.2
                · cases he
              · cases he
            · cases he
          · cases he
        · cases he
      · cases he
    · cases he
  · cases he
theorem evBs_grow {ρ : Operand → PV} {s : PV → PV} {op : Op} {r : PV} {e : Eff} (he : evBs P ρ s H m op = some (r, e)) : ∀ id e' sz els, e = .grow id e' sz els → H id ≠ none := by
  intro id e' sz els hg
  subst hg
  unfold evBs at he
  repeat' (split at he <;> (try (simp at he; done)))
end
end Go.Proofs.YtoibbedpaaeclaaGreat
end

section
namespace Go.Proofs.YtoibbedpaaeclaaGreat
open Go Go.RowKit
set_option linter.unusedVariables false
set_option linter.unusedSimpArgs false
inductive Out where
  | ret (v : PV)
  | pan (v : PV)
inductive Ex where
  | normal
  | exit (id : Nat)
  | ret
  | pan (v : PV)
def OutR (w : World) (M0 : Nat → Nat → Prop) (σ : Nat → Gh) (H : Heap) : Ending → Out → Prop
  | .returned v, .ret p => VV w M0 σ H v p
  | .panicked ch, .pan p => ∃ v, ch = [{ v, recovered := false }] ∧ VV w M0 σ H v p
  | _, _ => False
def VL (w : World) (M : Nat → Nat → Prop) (σ : Nat → Gh) (L : Nat → Prop) (vs : List Value) (ps : List PV) : Prop :=
  vs.length = ps.length ∧ ∀ (i : Nat) (v : Value) (p : PV), vs[i]? = some v → ps[i]? = some p → VR w M σ L v p
/-- A call's contract, over own boxes. -/
def CSat (P : Program) (f : FuncId) (args : List PV) (H : Heap) (m : Nat) (Q : Out → Heap → Nat → Prop) : Prop :=
  ∀ (w : World) (M0 : Nat → Nat → Prop) (σ : Nat → Gh) (vs : List Value), HR w M0 σ H → (∀ i, m ≤ i → H i = none) → VL w (MU M0 σ H) σ (LV H) vs args →
    Calls P f vs.toArray w fun e w' => ∃ out H' m' σ', Q out H' m' ∧ HR w' M0 σ' H' ∧ (∀ i, m' ≤ i → H' i = none) ∧ m ≤ m' ∧ Fr w M0 σ H w' σ' H' ∧ OutR w' M0 σ' H' e out
theorem CSat.mono {P f args H m Q Q'} (h : CSat P f args H m Q) (hq : ∀ out H' m', Q out H' m' → Q' out H' m') : CSat P f args H m Q' := fun w M0 σ vs h1 h2 h3 =>
  (h w M0 σ vs h1 h2 h3).mono fun e w' ⟨out, H', m', σ', q, r⟩ => ⟨out, H', m', σ', hq _ _ _ q, r⟩
def q5c (ops : Array Oper) (env : Env) (o : Oper) : Option Bool :=
  match o.guard with
  | none => some true
  | some (j, want) => match (ops[j]?).bind (·.dst) with
    | some d => match env d with
      | .bool b => some (b == want)
      | .undef => some false
      | _ => none
    | none => none
def q3s (P : Program) (g : FuncId) : Bool := match P.funcs[g]? with
  | some fn => fn.body.isSome && !(fn.name == "runtime.NumGoroutine")
  | none => false
/-- Whom an operation calls, and with what. -/
def q1i (ρ : Operand → PV) (s : PV → PV) : Op → Option (FuncId × List PV)
  | .call c => match c.callee with
    | .value f => match ρ f with
      | .fn (.func g) first cap => some (g, first ++ c.args.toList.map (fun x => s (ρ x)) ++ cap)
      | _ => none
    | _ => none
  | _ => none
def q4a : Op → Bool
  | .call c => match c.callee with
    | .value _ => true
    | _ => false
  | _ => false
def panicP (ρ : Operand → PV) (s : PV → PV) : Op → Option PV
  | .panic x => match ρ x with
    | .ifc t p => some (.ifc t p)
    | _ => none
  | _ => none
def x0k : Op → Bool
  | .panic _ => true
  | _ => false
def pwOp (P : Program) (ops : Array Oper) (o : Oper) (Q : Ex → Env → Heap → Nat → Prop) (K : Env → Heap → Nat → Prop) (env : Env) (H : Heap) (m : Nat) : Prop :=
  match q5c ops env o with
  | some true =>
    if q4a o.op = true then
      match q1i (rho env) (strip H) o.op with
      | some (g, args) => q3s P g = true ∧ CSat P g args H m fun out H' m' => match out with
        | .ret v => K (upd env o.dst v) H' m'
        | .pan v => Q (.pan v) env H' m'
      | none => False
    else if x0k o.op = true then
      match panicP (rho env) (strip H) o.op with
      | some p => Q (.pan p) env H m
      | none => False
    else (match evOp P (rho env) (strip H) H m o.op with
      | some (r, e) => K (upd env o.dst r) (e.app m H) (m + e.cnt)
      | none => False) ∨ (match evBs P (rho env) (strip H) H m o.op with
      | some (r, e) => K (upd env o.dst r) (e.app m H) (m + e.cnt)
      | none => False)
  | some false => K (upd env o.dst .undef) H m
  | none => False
def q0i (P : Program) (ops : Array Oper) (Q : Ex → Env → Heap → Nat → Prop) : List Oper → Env → Heap → Nat → Prop
  | [] => Q .normal
  | o :: rest => pwOp P ops o Q (q0i P ops Q rest)
/-- The state in which a function stands, and that in which it began. -/
structure St (w0 : World) (M0 : Nat → Nat → Prop) (σ0 : Nat → Gh) (H0 : Heap) (m0 nt : Nat) (ds : List Deferred) (a : Act) (w : World) (env : Env) (H : Heap) (m : Nat) (σ : Nat → Gh) : Prop where
  hr : HR w M0 σ H
  free : ∀ i, m ≤ i → H i = none
  le : m0 ≤ m
  fr : Fr w0 M0 σ0 H0 w σ H
  size : a.tmps.size = nt
  defers : a.defers = ds
  env : ∀ t, VV w M0 σ H (a.tmps.getD t undef) (env t)
def ExR (w : World) (M0 : Nat → Nat → Prop) (σ : Nat → Gh) (H : Heap) : Exit → Ex → Prop
  | .normal, .normal => True
  | .exit i, .exit j => i = j
  | .ret, .ret => True
  | .panic ch, .pan p => ∃ v, ch = [{ v, recovered := false }] ∧ VV w M0 σ H v p
  | _, _ => False
section
variable {P : Program} {w0 : World} {M0 : Nat → Nat → Prop} {σ0 : Nat → Gh} {H0 : Heap} {m0 nt : Nat} {ds : List Deferred}
def QQ (w0 : World) (M0 : Nat → Nat → Prop) (σ0 : Nat → Gh) (H0 : Heap) (m0 nt : Nat) (ds : List Deferred) (Q : Ex → Env → Heap → Nat → Prop) : Exit → Act → World → Prop := fun e a w =>
  ∃ ex env H m σ, Q ex env H m ∧ St w0 M0 σ0 H0 m0 nt ds a w env H m σ ∧ ExR w M0 σ H e ex
theorem put_size (a : Act) (d : Option Tmp) (v : Value) : (a.put d v).tmps.size = a.tmps.size := by cases d <;> simp [Act.put]
theorem put_defers' (a : Act) (d : Option Tmp) (v : Value) : (a.put d v).defers = a.defers := by cases d <;> rfl
theorem put_get (a : Act) (d : Option Tmp) (v : Value) (hd : ∀ x, d = some x → x < a.tmps.size) (t : Nat) : (a.put d v).tmps.getD t undef = if d = some t then v else a.tmps.getD t undef := by
  cases d with
  | none => simp [Act.put]
  | some x =>
    have hx := hd x rfl
    simp only [Act.put, Array.getD_eq_getD_getElem?, Array.getElem?_setIfInBounds, Option.some.injEq]
    by_cases e : x = t
    · subst e; simp [hx]
    · simp [e]
theorem q8i (env : Env) (d : Option Tmp) (p : PV) (t : Nat) : upd env d p t = if d = some t then p else env t := by
  cases d with
  | none => simp [upd]
  | some x => simp only [upd, Option.some.injEq]; by_cases e : t = x
              · simp [e]
              · rw [if_neg e, if_neg (Ne.symm e)]
theorem app_none {H : Heap} {m : Nat} (hn : ∀ i, m ≤ i → H i = none) (e : Eff) (he : ∀ id e' sz els, e = .grow id e' sz els → H id ≠ none) : ∀ i, m + e.cnt ≤ i → e.app m H i = none := by
  intro i hi
  cases e with
  | nop => exact hn i hi
  | new l => simp only [Eff.cnt] at hi; simp only [Eff.app]; rw [q1b _ _ (by omega)]; exact hn i (by omega)
  | put id off x =>
    simp only [Eff.cnt] at hi
    simp only [Eff.app]
    cases hid : H id with
    | none => exact hn i (by omega)
    | some he =>
      have : id < m := Nat.lt_of_not_le fun hle => by rw [hn id hle] at hid; cases hid
      cases he with
      | box l => simp only; rw [q1b _ _ (by omega)]; exact hn i (by omega)
      | row _ _ _ => exact hn i (by omega)
  | born e' sz els => simp only [Eff.cnt] at hi; simp only [Eff.app]; rw [q1b _ _ (by omega)]; exact hn i (by omega)
  | grow id e' sz els =>
    simp only [Eff.cnt] at hi
    have : id < m := Nat.lt_of_not_le fun hle => he id e' sz els rfl (hn id hle)
    simp only [Eff.app]; rw [q1b _ _ (by omega)]; exact hn i (by omega)
theorem evOp_grow {ρ : Operand → PV} {s : PV → PV} {H : Heap} {m : Nat} {op : Op} {r : PV} {e : Eff} (he : evOp P ρ s H m op = some (r, e)) : ∀ id e' sz els, e = .grow id e' sz els → H id ≠ none := by
  intro id e' sz els hg
  subst hg
  unfold evOp at he
  split at he
  all_goals (try (simp at he; done))
  all_goals (try (split at he <;> (try (simp at he; done))))
  all_goals (try (split at he <;> (try (simp at he; done))))
  all_goals (try (split at he <;> (try (simp at he; done))))
  all_goals (try (split at he <;> (try (simp at he; done))))
  unfold q4d at he
  split at he <;> (try (simp at he; done))
  split at he <;> (try (simp at he; done))
  split at he <;> (try (simp at he; done))
  split at he <;> (try (simp at he; done))
  split at he <;> (try (simp at he; done))
  split at he
  · split at he <;> (try (simp at he; done))
  · split at he <;> (try (simp at he; done))
    rename_i hid
    split at he <;> (try (simp at he; done))
    split at he <;> (try (simp at he; done))
    split at he <;> (try (simp at he; done))
    simp only [Option.some.injEq, Prod.mk.injEq, Eff.grow.injEq] at he
    rw [← he.2.1, hid]; simp
  · simp at he
theorem St.step {a : Act} {w : World} {env : Env} {H : Heap} {m : Nat} {σ : Nat → Gh} (h : St w0 M0 σ0 H0 m0 nt ds a w env H m σ) {w' : World} {H' : Heap} {m' : Nat} {σ' : Nat → Gh} (hr : HR w' M0 σ' H') (hn : ∀ i, m' ≤ i → H' i = none) (hm : m ≤ m') (hf : Fr w M0 σ H w' σ' H')
    {d : Option Tmp} (hd : ∀ x, d = some x → x < nt) {v : Value} {p : PV} (hv : VV w' M0 σ' H' v p) : St w0 M0 σ0 H0 m0 nt ds (a.put d v) w' (upd env d p) H' m' σ' := by
  refine ⟨hr, hn, Nat.le_trans h.le hm, h.fr.trans hf, by rw [put_size]; exact h.size, by rw [put_defers']; exact h.defers, fun t => ?_⟩
  rw [put_get _ _ _ (by rw [h.size]; exact hd), q8i]
  split
  · exact hv
  · exact (h.env t).mono hf.ext
theorem St.eval {a : Act} {w : World} {env : Env} {H : Heap} {m : Nat} {σ : Nat → Gh} (h : St w0 M0 σ0 H0 m0 nt ds a w env H m σ) (x : Operand) : VV w M0 σ H (a.eval x) (rho env x) := by
  cases x with
  | tmp t => exact h.env t
  | const v => exact vr_cv v
  | global g => exact .any _
  | func f => exact .fn _ [] [] [] [] rfl rfl (fun i v p hv => by simp at hv) (fun i v p hv => by simp at hv)
theorem q6g {ops : Array Oper} {a : Act} {w : World} {env : Env} {H : Heap} {σ : Nat → Gh} (henv : ∀ t, VV w M0 σ H (a.tmps.getD t undef) (env t)) {o : Oper} {b : Bool} (hw : q5c ops env o = some b) : Region.wanted o (yielded ops a.tmps) = b := by
  unfold q5c at hw
  unfold Region.wanted
  split at hw
  · rename_i hg; rw [hg]; simp only; exact Option.some.inj hw
  · rename_i j want hg
    rw [hg]
    simp only
    split at hw
    · rename_i d hd
      split at hw
      · rename_i c hc
        have hv := henv d
        rw [hc] at hv
        have : a.tmps[d]? = some (.bool c) := by
          rw [Array.getD_eq_getD_getElem?] at hv
          cases ht : a.tmps[d]? with
          | none => rw [ht] at hv; simp only [Option.getD_none, undef] at hv; cases hv
          | some u => rw [ht] at hv; simp only [Option.getD_some] at hv; cases hv; rfl
        have hy : yielded ops a.tmps j = some c := by unfold yielded; rw [hd]; simp only [Option.bind_some, this]
        rw [hy]
        rw [← Option.some.inj hw]
        cases c <;> cases want <;> rfl
      · rename_i hc
        have hv := henv d
        rw [hc] at hv
        have hy : yielded ops a.tmps j = none := by
          unfold yielded
          rw [hd]
          simp only [Option.bind_some]
          rw [Array.getD_eq_getD_getElem?] at hv
          cases ht : a.tmps[d]? with
          | none => rfl
          | some u => rw [ht] at hv; simp only [Option.getD_some] at hv; cases hv; rfl
        rw [hy]
        rw [← Option.some.inj hw]
        rfl
      · cases hw
    · cases hw
theorem vl_app {w : World} {M σ L} {a b : List Value} {p q : List PV} (h : VL w M σ L a p) (k : VL w M σ L b q) : VL w M σ L (a ++ b) (p ++ q) := by
  refine ⟨by rw [List.length_append, List.length_append, h.1, k.1], fun i v x hv hx => ?_⟩
  by_cases hi : i < a.length
  · rw [List.getElem?_append_left hi] at hv; rw [List.getElem?_append_left (by rw [← h.1]; exact hi)] at hx; exact h.2 i v x hv hx
  · rw [List.getElem?_append_right (by omega)] at hv; rw [List.getElem?_append_right (by rw [← h.1]; omega)] at hx; rw [h.1] at hv; exact k.2 _ v x hv hx
/-- What an operation that calls enters. -/
theorem q9q {ev : Operand → Value} {ρ : Operand → PV} {s : PV → PV} {w : World} {M σ L} {o : Oper} (hρ : ∀ x ∈ o.op.operands, VR w M σ L (ev x) (ρ x)) (hs : ∀ x ∈ o.op.operands, VR w M σ L (ev x) (s (ρ x))) {g : FuncId} {args : List PV} (hc : q1i ρ s o.op = some (g, args)) (he : q3s P g = true) :
    ∃ vs : List Value, (execOp ev o).run P w = .ok (.enter g vs.toArray) w ∧ VL w M σ L vs args := by
  obtain ⟨dst, op, ty, pos, after, guard⟩ := o
  simp only at hρ hs hc
  unfold q1i at hc
  split at hc
  · rename_i c
    split at hc
    · rename_i f hcal
      split at hc
      · rename_i g' first cap hf
        cases hc
        have hfv := hρ f (by simp [Op.operands, Call.operands, hcal])
        rw [hf] at hfv
        generalize hev : ev f = fv at hfv
        cases hfv with
        | fn _ fs cs _ _ l1 l2 r1 r2 =>
          have hargs : VL w M σ L (c.args.toList.map ev) (c.args.toList.map fun x => s (ρ x)) := by
            refine ⟨by simp, fun i v p hv hp => ?_⟩
            rw [List.getElem?_map] at hv hp
            cases hx : c.args.toList[i]? with
            | none => rw [hx] at hp; cases hp
            | some q =>
              rw [hx] at hv hp
              simp only [Option.map_some, Option.some.injEq] at hv hp
              subst hv; subst hp
              exact hs q (by
                have : q ∈ c.args := Array.mem_toList_iff.1 (List.mem_of_getElem? hx)
                simp [Op.operands, Call.operands, hcal, this])
          refine ⟨fs ++ c.args.toList.map ev ++ cs, ?_, vl_app (vl_app ⟨l1, r1⟩ hargs) ⟨l2, r2⟩⟩
          unfold q3s at he
          split at he
          · rename_i fn hfn
            simp only [Bool.and_eq_true, Bool.not_eq_true'] at he
            have hb : fn.body.isNone = false := by cases hbb : fn.body <;> simp_all
            simp only [execOp, resolve, hcal, hev, Deferred.ofValue, pure_bind, invoke, callFunc, Sem.run_bind, run_program, Result.andThen_ok, hfn, he.2, hb, Bool.false_eq_true, if_false, Sem.run_pure]
            congr 2
            apply Array.ext'
            simp
          · cases he
      · cases hc
    · cases hc
  · cases hc
theorem panic_spec {ρ : Operand → PV} {s : PV → PV} {op : Op} {p : PV} (h : panicP ρ s op = some p) : ∃ x t q, op = .panic x ∧ ρ x = .ifc t q ∧ p = .ifc t q := by
  cases op <;> simp only [panicP, reduceCtorEq] at h
  rename_i x
  split at h
  · rename_i t q hx; cases h; exact ⟨x, t, q, rfl, hx, rfl⟩
  · cases h
theorem q9f {ops : Array Oper} {o : Oper} {Q : Ex → Env → Heap → Nat → Prop} {K : Env → Heap → Nat → Prop} {K' : Act → World → Prop} {a : Act} {w : World} {env : Env} {H : Heap} {m : Nat} {σ : Nat → Gh} (hS : St w0 M0 σ0 H0 m0 nt ds a w env H m σ)
    (hd : ∀ x, o.dst = some x → x < nt) (hK : ∀ a' w' env' H' m' σ', K env' H' m' → St w0 M0 σ0 H0 m0 nt ds a' w' env' H' m' σ' → K' a' w') (h : pwOp P ops o Q K env H m) :
    if Region.wanted o (yielded ops a.tmps) then o.wp P a w K' (QQ w0 M0 σ0 H0 m0 nt ds Q) else K' (a.put o.dst undef) w := by
  have hρ : ∀ x ∈ o.op.operands, VV w M0 σ H (a.eval x) (rho env x) := fun x _ => hS.eval x
  have hs : ∀ x ∈ o.op.operands, VV w M0 σ H (a.eval x) (strip H (rho env x)) := fun x _ => vr_strip hS.hr (hS.eval x)
  unfold pwOp at h
  split at h
  · rename_i hw
    rw [if_pos (q6g hS.env hw)]
    split at h
    · split at h
      · rename_i g args hc
        obtain ⟨he, hcs⟩ := h
        obtain ⟨vs, hrun, hvl⟩ := q9q (P := P) hρ hs hc he
        unfold Oper.wp
        rw [hrun]
        simp only [Oper.upon]
        refine (hcs w M0 σ vs hS.hr hS.free hvl).mono ?_
        rintro e w' ⟨out, H', m', σ', hq, hr', hn', hm', hf', ho⟩
        cases e with
        | returned v =>
          cases out with
          | ret p => exact hK _ _ _ _ _ _ hq (hS.step hr' hn' hm' hf' hd ho)
          | pan p => exact ho.elim
        | panicked ch =>
          cases out with
          | ret p => exact ho.elim
          | pan p =>
            refine ⟨.pan p, env, H', m', σ', hq, ?_, ho⟩
            exact ⟨hr', hn', Nat.le_trans hS.le hm', hS.fr.trans hf', hS.size, hS.defers, fun t => (hS.env t).mono hf'.ext⟩
        | outgrown => cases out <;> exact ho.elim
      · exact h.elim
    · split at h
      · split at h
        · rename_i p hp
          obtain ⟨dst, op, ty, pos, after, guard⟩ := o
          simp only at hρ hs hp
          obtain ⟨x, t, q, rfl, hx, rfl⟩ := panic_spec hp
          have hxv := hρ x (by simp [Op.operands])
          rw [hx] at hxv
          generalize hev : a.eval x = u at hxv
          have hxv' := hxv
          cases hxv with
          | ifc _ v _ hv =>
            unfold Oper.wp
            have hrun : (execOp a.eval { dst := dst, op := .panic x, type := ty, pos := pos, after := after, guard := guard }).run P w = .halt (.panic (.iface t v)) w := by
              simp [execOp, hev, Instr.panic, goPanic, Sem.run]
            rw [hrun]
            simp only [Oper.upon]
            exact ⟨.pan (.ifc t q), env, H, m, σ, h, hS, _, rfl, hxv'⟩
        · exact h.elim
      · have fin : ∀ r e, OpOk P w M0 σ H m (execOp a.eval o) r e → (∀ id e' sz els, e = .grow id e' sz els → H id ≠ none) → K (upd env o.dst r) (e.app m H) (m + e.cnt) → o.wp P a w K' (QQ w0 M0 σ0 H0 m0 nt ds Q) := by
          rintro r e ⟨n, v, w', σ', hrun, hg, hv, hr', hf', _⟩ hgr h
          have hn' := app_none hS.free e hgr
          unfold Oper.wp
          rw [hrun]
          rcases hg with rfl | ⟨rfl, rfl⟩
          · simp only [Oper.upon]
            exact hK _ _ _ _ _ _ h (hS.step hr' hn' (by omega) hf' hd hv)
          · simp only [Oper.upon]
            exact hK _ _ _ _ _ _ h (hS.step hr' hn' (by omega) hf' hd hv)
        rcases h with h | h
        · split at h
          · rename_i r e he
            exact fin r e (op_sound (P := P) hS.hr (hS.free m (Nat.le_refl _)) hρ hs he) (evOp_grow he) h
          · exact h.elim
        · split at h
          · rename_i r e he
            exact fin r e (bs_sound (P := P) hS.hr (hS.free m (Nat.le_refl _)) hρ hs he) (evBs_grow he) h
          · exact h.elim
  · rename_i hw
    rw [if_neg (by rw [q6g hS.env hw]; simp)]
    exact hK _ _ _ _ _ _ h (hS.step hS.hr hS.free (Nat.le_refl _) (Fr.refl _ _ _ _) hd .undef)
  · exact h.elim
theorem x0d {ops : Array Oper} {Q : Ex → Env → Heap → Nat → Prop} : ∀ (l : List Oper) (a : Act) (w : World) (env : Env) (H : Heap) (m : Nat) (σ : Nat → Gh), St w0 M0 σ0 H0 m0 nt ds a w env H m σ → (∀ o ∈ l, ∀ x, o.dst = some x → x < nt) →
    q0i P ops Q l env H m → wpList P ops (QQ w0 M0 σ0 H0 m0 nt ds Q) l a w
  | [], a, w, env, H, m, σ, hS, _, h => ⟨.normal, env, H, m, σ, h, hS, trivial⟩
  | o :: l, a, w, env, H, m, σ, hS, hd, h => by
    have := q9f (P := P) hS (hd o (by simp)) (K' := wpList P ops (QQ w0 M0 σ0 H0 m0 nt ds Q) l) (fun a' w' env' H' m' σ' hk hS' => x0d l a' w' env' H' m' σ' hS' (fun o' ho' => hd o' (by simp [ho'])) hk) h
    unfold wpList
    split
    · rename_i hw; rw [if_pos hw] at this; exact .inl this
    · rename_i hw; rw [if_neg hw] at this; exact this
end
end Go.Proofs.YtoibbedpaaeclaaGreat
end

section
namespace Go.Proofs.YtoibbedpaaeclaaGreat
open Go Go.RowKit
set_option linter.unusedVariables false
set_option linter.unusedSimpArgs false
/-- A call's contract without own boxes. -/
def Pure (P : Program) (f : FuncId) (args : List PV) (r : PV) : Prop :=
  ∀ (w : World) (M : Nat → Nat → Prop) (σ : Nat → Gh) (L : Nat → Prop) (vs : List Value), (∀ b o, M b o → b < w.heap.size) → VL w M σ L vs args →
    Calls P f vs.toArray w fun e w' => ∃ v, e = .returned v ∧ VR w' M σ L v r ∧ Below w.heap.size w w'
/-- A call that makes a new own box or row. -/
def BornC (P : Program) (g : FuncId) (args : List PV) (r : Nat → PV) (e : Eff) : Prop :=
  e.cnt = 1 ∧ ∀ (w : World) (M0 : Nat → Nat → Prop) (σ : Nat → Gh) (H : Heap) (m : Nat) (vs : List Value), HR w M0 σ H → H m = none → VL w (MU M0 σ H) σ (LV H) vs args →
    Calls P g vs.toArray w fun x w' => ∃ v σ', x = .returned v ∧ HR w' M0 σ' (e.app m H) ∧ Fr w M0 σ H w' σ' (e.app m H) ∧ VV w' M0 σ' (e.app m H) v (r m)
def CallOk (P : Program) (g : FuncId) (args : List PV) (m : Nat) (r : PV) (e : Eff) : Prop := (Pure P g args r ∧ e = .nop) ∨ ∃ rf, BornC P g args rf e ∧ r = rf m
def sp0 : PV → PV
  | .nilsl => .sl []
  | .gr _ _ => .any
  | p => p
structure Rg where
  id : Nat
  lo : Nat
  hi : Nat
  whole : Bool
def Rg.meets (a b : Rg) : Bool := a.id == b.id && (a.whole || (b.whole || (decide (a.lo < b.hi) && decide (b.lo < a.hi))))
def Eff.wr : Eff → List Rg
  | .put id off l => [⟨id, off, off + l.length, false⟩]
  | .grow id _ _ _ => [⟨id, 0, 0, true⟩]
  | _ => []
def rdOf (P : Program) (ρ : Operand → PV) : Op → List Rg
  | .load t a => match ρ a with
    | .ptr id off => [⟨id, off, off + (if aggT P t = some true then P.cellsOf t else 1), false⟩]
    | _ => []
  | .call c => match c.args.toList with
    | x :: _ => match ρ x with
      | .gr id _ => [⟨id, 0, 0, true⟩]
      | _ => []
    | [] => []
  | _ => []
def q6z (a b : List Rg) : Bool := a.all fun x => b.all fun y => !(x.meets y)
def okPair (x y : Eff × List Rg) : Bool := q6z x.1.wr y.1.wr && (q6z x.1.wr y.2 && q6z x.2 y.1.wr)
def q1n : List (Eff × List Rg) → Bool
  | [] => true
  | x :: l => l.all (okPair x) && q1n l
/-- An operation that makes a new own slice, without a look at what there is. -/
def nwOf (P : Program) (ρ : Operand → PV) (s : PV → PV) : Op → Option (Nat × Nat × Nat × List PV)
  | .buildSlice t n parts => match q2r P t n (parts.toList.map fun (i, x) => (i, s (ρ x))) with
    | some (.sl els) => match P.underlying t with
      | some (.slice e) => some (els.length, e, P.cellsOf e, els.flatten)
      | _ => none
    | _ => none
  | _ => none
theorem nw_bs {P : Program} {ρ : Operand → PV} {s : PV → PV} {op : Op} {n e sz : Nat} {fl : List PV} (h : nwOf P ρ s op = some (n, e, sz, fl)) (H : Heap) (m : Nat) : evBs P ρ s H m op = some (.bs m n e sz, .new fl) := by
  cases op <;> simp only [nwOf, reduceCtorEq] at h
  simp only [evBs]
  split at h
  · rename_i els he
    rw [he]
    split at h
    · rename_i e' hu; cases h; simp only [hu]
    · cases h
  · cases h
/-- i comes behind j in each order. -/
def q5f (ops : Array Oper) : Nat → Nat → Nat → Bool
  | 0, _, _ => false
  | f + 1, i, j => match ops[i]? with
    | some o => o.after.any fun e => Region.binds .any e && (e.on == j || (decide (j < e.on) && q5f ops f e.on j))
    | none => false
def q2c (ops : Array Oper) : Bool :=
  (List.range ops.size).all fun j => match ops[j]? with
    | none => true
    | some o =>
      (o.after.all fun e => !Region.binds .any e || decide (e.on < j)) &&
      ((List.range ops.size).all fun i => match (ops[i]?).bind (·.dst) with
        | none => true
        | some d => (i == j || o.dst != some d) && (!(o.looksAt ops).contains d || ((decide (i < j) && o.after.any fun e => Region.binds .any e && e.on == i) || (decide (j < i) && q5f ops ops.size i j))))
def dr (P : Program) (ops : Array Oper) : List Oper → (Env → Heap → Nat → List (Eff × List Rg) → Prop) → Env → Heap → Nat → Prop
  | [], K => fun env H m => K env H m []
  | o :: rest, K => fun env H m =>
    match q5c ops env o with
    | some false => dr P ops rest (fun e h n L => K e h n ((.nop, []) :: L)) (upd env o.dst .undef) H m
    | some true =>
      if q4a o.op = true then
        match q1i (rho env) sp0 o.op with
        | some (g, args) => q3s P g = true ∧ ∃ r e, CallOk P g args m r e ∧ dr P ops rest (fun e' h n L => K e' h n ((e, []) :: L)) (upd env o.dst r) (e.app m H) (m + e.cnt)
        | none => False
      else (match evOp P (rho env) sp0 H m o.op with
        | some (r, e) => dr P ops rest (fun e' h n L => K e' h n ((e, rdOf P (rho env) o.op) :: L)) (upd env o.dst r) (e.app m H) (m + e.cnt)
        | none => False) ∨ (match nwOf P (rho env) sp0 o.op with
        | some (n, e, sz, fl) => dr P ops rest (fun e' h k L => K e' h k ((.new fl, []) :: L)) (upd env o.dst (.bs m n e sz)) ((Eff.new fl).app m H) (m + 1)
        | none => False)
    | none => False
def Eff.isGrow : Eff → Bool
  | .grow _ _ _ _ => true
  | _ => false
/-- Two operations of which the first comes first in the text: they are apart, but for what the second writes of what the first reads, and what the first appends to a row that the second looks at, if it comes behind it in each order. -/
def q7b (ops : Array Oper) (i j : Nat) (x y : Eff × List Rg) : Bool := q6z x.1.wr y.1.wr && ((q6z x.1.wr y.2 || (x.1.isGrow && q5f ops ops.size j i)) && (q6z x.2 y.1.wr || q5f ops ops.size j i))
def okRow (ops : Array Oper) (i : Nat) (x : Eff × List Rg) : Nat → List (Eff × List Rg) → Bool
  | _, [] => true
  | j, y :: l => q7b ops i j x y && okRow ops i x (j + 1) l
def q2d (ops : Array Oper) : Nat → List (Eff × List Rg) → Bool
  | _, [] => true
  | i, x :: l => okRow ops i x (i + 1) l && q2d ops (i + 1) l
def pwDraw (P : Program) (ops : Array Oper) (Q : Ex → Env → Heap → Nat → Prop) (env : Env) (H : Heap) (m : Nat) : Prop :=
  q2c ops = true ∧ (dr P ops ops.toList (fun env' H' m' L => q1n L = true ∧ Q .normal env' H' m') env H m ∨ dr P ops ops.toList (fun env' H' m' L => q2d ops 0 L = true ∧ Q .normal env' H' m') env H m)
/-- The textual run, number by number. -/
structure Run (P : Program) (ops : Array Oper) where
  r : Nat → PV
  e : Nat → Eff
  rd : Nat → List Rg
  en : Nat → Env
  hn : Nat → Heap
  mm : Nat → Nat
def Run.good {P : Program} {ops : Array Oper} (R : Run P ops) (i : Nat) (o : Oper) : Prop :=
  R.en (i + 1) = upd (R.en i) o.dst (R.r i) ∧ R.hn (i + 1) = (R.e i).app (R.mm i) (R.hn i) ∧ R.mm (i + 1) = R.mm i + (R.e i).cnt ∧
  ((q5c ops (R.en i) o = some false ∧ R.r i = .undef ∧ R.e i = .nop) ∨
   (q5c ops (R.en i) o = some true ∧
    ((∃ g args, q4a o.op = true ∧ q1i (rho (R.en i)) sp0 o.op = some (g, args) ∧ q3s P g = true ∧ CallOk P g args (R.mm i) (R.r i) (R.e i)) ∨
     (q4a o.op ≠ true ∧ evOp P (rho (R.en i)) sp0 (R.hn i) (R.mm i) o.op = some (R.r i, R.e i) ∧ R.rd i = rdOf P (rho (R.en i)) o.op) ∨
     (q4a o.op ≠ true ∧ ∃ n e sz fl, nwOf P (rho (R.en i)) sp0 o.op = some (n, e, sz, fl) ∧ R.r i = .bs (R.mm i) n e sz ∧ R.e i = .new fl))))
section
variable {P : Program} {ops : Array Oper}
def Run.cons (r : PV) (e : Eff) (rd : List Rg) (env : Env) (H : Heap) (m : Nat) (R : Run P ops) : Run P ops where
  r := fun i => match i with | 0 => r | i + 1 => R.r i
  e := fun i => match i with | 0 => e | i + 1 => R.e i
  rd := fun i => match i with | 0 => rd | i + 1 => R.rd i
  en := fun i => match i with | 0 => env | i + 1 => R.en i
  hn := fun i => match i with | 0 => H | i + 1 => R.hn i
  mm := fun i => match i with | 0 => m | i + 1 => R.mm i
theorem dr_run : ∀ (l : List Oper) (K : Env → Heap → Nat → List (Eff × List Rg) → Prop) (env : Env) (H : Heap) (m : Nat), dr P ops l K env H m →
    ∃ R : Run P ops, R.en 0 = env ∧ R.hn 0 = H ∧ R.mm 0 = m ∧ (∀ i o, l[i]? = some o → R.good i o) ∧ ∃ L, K (R.en l.length) (R.hn l.length) (R.mm l.length) L ∧ L.length = l.length ∧ ∀ i x, L[i]? = some x → x = (R.e i, R.rd i)
  | [], K, env, H, m, h => ⟨⟨fun _ => .any, fun _ => .nop, fun _ => [], fun _ => env, fun _ => H, fun _ => m⟩, rfl, rfl, rfl, fun i o ho => by simp at ho, [], h, rfl, fun i x hx => by simp at hx⟩
  | o :: l, K, env, H, m, h => by
    have glue : ∀ (r : PV) (e : Eff) (rd : List Rg), dr P ops l (fun e' h n L => K e' h n ((e, rd) :: L)) (upd env o.dst r) (e.app m H) (m + e.cnt) →
        ((q5c ops env o = some false ∧ r = .undef ∧ e = .nop) ∨
          (q5c ops env o = some true ∧
          ((∃ g args, q4a o.op = true ∧ q1i (rho env) sp0 o.op = some (g, args) ∧ q3s P g = true ∧ CallOk P g args m r e) ∨
          (q4a o.op ≠ true ∧ evOp P (rho env) sp0 H m o.op = some (r, e) ∧ rd = rdOf P (rho env) o.op) ∨
          (q4a o.op ≠ true ∧ ∃ n e' sz fl, nwOf P (rho env) sp0 o.op = some (n, e', sz, fl) ∧ r = .bs m n e' sz ∧ e = .new fl)))) →
        ∃ R : Run P ops, R.en 0 = env ∧ R.hn 0 = H ∧ R.mm 0 = m ∧ (∀ i o', (o :: l)[i]? = some o' → R.good i o') ∧ ∃ L, K (R.en (o :: l).length) (R.hn (o :: l).length) (R.mm (o :: l).length) L ∧ L.length = (o :: l).length ∧ ∀ i x, L[i]? = some x → x = (R.e i, R.rd i) := by
      intro r e rd hdr hg
      obtain ⟨R, h1, h2, h3, h4, L, h5, h6, h7⟩ := dr_run l _ _ _ _ hdr
      refine ⟨Run.cons r e rd env H m R, rfl, rfl, rfl, fun i o' ho' => ?_, (e, rd) :: L, h5, by simp [h6], fun i x hx => ?_⟩
      · cases i with
        | zero =>
          simp at ho'; subst ho'
          exact ⟨h1, h2, h3, hg⟩
        | succ i => exact h4 i o' (by simpa using ho')
      · cases i with
        | zero => simp at hx; subst hx; rfl
        | succ i => exact h7 i x (by simpa using hx)
    simp only [dr] at h
    split at h
    · rename_i hw
      exact glue .undef .nop [] h (.inl ⟨hw, rfl, rfl⟩)
    · rename_i hw
      split at h
      · rename_i hc
        split at h
        · rename_i g args hcal
          obtain ⟨he, r, e, hp, h⟩ := h
          exact glue r e [] h (.inr ⟨hw, .inl ⟨g, args, hc, hcal, he, hp⟩⟩)
        · exact h.elim
      · rename_i hc
        rcases h with h | h
        · split at h
          · rename_i r e hev
            exact glue r e _ h (.inr ⟨hw, .inr (.inl ⟨hc, hev, rfl⟩)⟩)
          · exact h.elim
        · split at h
          · rename_i n e sz fl hev
            exact glue (.bs m n e sz) (.new fl) [] h (.inr ⟨hw, .inr (.inr ⟨hc, n, e, sz, fl, hev, rfl, rfl⟩)⟩)
          · exact h.elim
    · exact h.elim
theorem okAll_get : ∀ {L : List (Eff × List Rg)}, q1n L = true → ∀ {i j : Nat} {x y}, i < j → L[i]? = some x → L[j]? = some y → okPair x y = true
  | [], _, i, j, x, y, _, hx, _ => by simp at hx
  | a :: L, h, i, j, x, y, hij, hx, hy => by
    simp only [q1n, Bool.and_eq_true, List.all_eq_true] at h
    cases j with
    | zero => omega
    | succ j =>
      have hy' : L[j]? = some y := by simpa using hy
      cases i with
      | zero => simp at hx; subst hx; exact h.1 y (List.mem_of_getElem? hy')
      | succ i => exact okAll_get (i := i) (j := j) h.2 (by omega) (by simpa using hx) hy'
theorem okPair_R {ops : Array Oper} {i j : Nat} {x y : Eff × List Rg} (h : okPair x y = true) : q7b ops i j x y = true := by
  unfold okPair at h
  unfold q7b
  simp only [Bool.and_eq_true, Bool.or_eq_true] at h ⊢
  exact ⟨h.1, .inl h.2.1, .inl h.2.2⟩
theorem okRow_get {ops : Array Oper} {i : Nat} {x : Eff × List Rg} : ∀ {L : List (Eff × List Rg)} {k : Nat}, okRow ops i x k L = true → ∀ {j : Nat} {y}, L[j]? = some y → q7b ops i (k + j) x y = true
  | [], _, _, j, y, hy => by simp at hy
  | a :: L, k, h, j, y, hy => by
    simp only [okRow, Bool.and_eq_true] at h
    cases j with
    | zero => simp at hy; subst hy; exact h.1
    | succ j =>
      have := okRow_get (L := L) (k := k + 1) h.2 (j := j) (y := y) (by simpa using hy)
      rwa [show k + 1 + j = k + (j + 1) by omega] at this
theorem okAllR_get {ops : Array Oper} : ∀ {L : List (Eff × List Rg)} {k : Nat}, q2d ops k L = true → ∀ {i j : Nat} {x y}, i < j → L[i]? = some x → L[j]? = some y → q7b ops (k + i) (k + j) x y = true
  | [], _, _, i, j, x, y, _, hx, _ => by simp at hx
  | a :: L, k, h, i, j, x, y, hij, hx, hy => by
    simp only [q2d, Bool.and_eq_true] at h
    cases j with
    | zero => omega
    | succ j =>
      have hy' : L[j]? = some y := by simpa using hy
      cases i with
      | zero =>
        simp at hx; subst hx
        have := okRow_get h.1 hy'
        rwa [show k + 1 + j = k + (j + 1) by omega] at this
      | succ i =>
        have := okAllR_get (k := k + 1) h.2 (i := i) (j := j) (by omega) (by simpa using hx) hy'
        rwa [show k + 1 + i = k + (i + 1) by omega, show k + 1 + j = k + (j + 1) by omega] at this
end
end Go.Proofs.YtoibbedpaaeclaaGreat
end

section
namespace Go.Proofs.YtoibbedpaaeclaaGreat
open Go Go.RowKit
set_option linter.unusedVariables false
set_option linter.unusedSimpArgs false
section
variable {P : Program} {ops : Array Oper}
theorem evOp_put {ρ : Operand → PV} {s : PV → PV} {H : Heap} {m : Nat} {op : Op} {r : PV} {id off : Nat} {l : List PV} (he : evOp P ρ s H m op = some (r, .put id off l)) : ∃ c, H id = some (.box c) ∧ off + l.length ≤ c.length ∧ ∃ a x t, op = .store t a x ∧ ρ a = .ptr id off := by
  cases op
  case store t a x =>
    simp only [evOp] at he
    split at he
    · rename_i id' off' ha
      split at he
      · split at he
        · rename_i c hid
          split at he
          · rename_i hc
            simp only [Option.some.injEq, Prod.mk.injEq, Eff.put.injEq] at he
            obtain ⟨_, rfl, rfl, rfl⟩ := he
            exact ⟨c, hid, hc.2.2, a, x, t, rfl, ha⟩
          · cases he
        · cases he
      · cases he
    · cases he
  case call c =>
    exfalso
    simp only [evOp] at he
    split at he <;> (try (simp at he; done))
    · repeat' (split at he)
      all_goals (first | (simp at he; done) | cases he)
    · split at he <;> (try (simp at he; done))
      unfold q4d at he
      repeat' (split at he)
      all_goals (first | (simp at he; done) | cases he)
    · repeat' (split at he)
      all_goals (first | (simp at he; done) | cases he)
    · repeat' (split at he)
      all_goals (first | (simp at he; done) | cases he)
  case slice t x lo hi mx => exfalso; cases mx <;> (simp only [evOp] at he; first | (simp at he; done) | cases he)
  case typeAssert x xt t ok => exfalso; cases ok <;> (simp only [evOp] at he; (repeat' (split at he)) <;> first | (simp at he; done) | cases he)
  all_goals (exfalso; first | (simp only [evOp] at he; done) | (simp only [evOp] at he; repeat' (split at he)))
  all_goals (first | (simp at he; done) | cases he)
theorem evOp_growth {ρ : Operand → PV} {s : PV → PV} {H : Heap} {m : Nat} {op : Op} {r : PV} {id e' sz : Nat} {els' : List (List PV)} (he : evOp P ρ s H m op = some (r, .grow id e' sz els')) : ∃ els, H id = some (.row e' sz els) := by
  cases op
  case call c =>
    simp only [evOp] at he
    split at he <;> (try (simp at he; done))
    · exfalso
      repeat' (split at he)
      all_goals (first | (simp at he; done) | cases he)
    · split at he <;> (try (simp at he; done))
      unfold q4d at he
      split at he <;> (try (simp at he; done))
      split at he <;> (try (simp at he; done))
      split at he <;> (try (simp at he; done))
      split at he <;> (try (simp at he; done))
      split at he <;> (try (simp at he; done))
      split at he <;> (try (simp at he; done))
      · exfalso
        repeat' (split at he)
        all_goals (first | (simp at he; done) | cases he)
      · split at he <;> (try (simp at he; done))
        rename_i hid
        split at he <;> (try (simp at he; done))
        rename_i hc
        split at he <;> (try (simp at he; done))
        split at he <;> (try (simp at he; done))
        simp only [Option.some.injEq, Prod.mk.injEq, Eff.grow.injEq] at he
        obtain ⟨_, rfl, rfl, rfl, _⟩ := he
        exact ⟨_, by rw [hid, hc.2.1, hc.2.2]⟩
    · exfalso
      repeat' (split at he)
      all_goals (first | (simp at he; done) | cases he)
    · exfalso
      repeat' (split at he)
      all_goals (first | (simp at he; done) | cases he)
  case slice t x lo hi mx => exfalso; cases mx <;> (simp only [evOp] at he; first | (simp at he; done) | cases he)
  case typeAssert x xt t ok => exfalso; cases ok <;> (simp only [evOp] at he; (repeat' (split at he)) <;> first | (simp at he; done) | cases he)
  all_goals (exfalso; first | (simp only [evOp] at he; done) | (simp only [evOp] at he; repeat' (split at he)))
  all_goals (first | (simp at he; done) | cases he)
def q9u (ops : Array Oper) (k : Nat) : Option Tmp := (ops[k]?).bind (·.dst)
def pe (R : Run P ops) (D : Nat → Bool) : Nat → Env
  | 0 => R.en 0
  | k + 1 => if D k then upd (pe R D k) (q9u ops k) (R.r k) else pe R D k
def ph (R : Run P ops) (D : Nat → Bool) : Nat → Heap
  | 0 => R.hn 0
  | k + 1 => if D k then (R.e k).app (R.mm k) (ph R D k) else ph R D k
structure RunOk (R : Run P ops) (m0 : Nat) : Prop where
  good : ∀ i o, ops[i]? = some o → R.good i o
  pair : ∀ i j, i < j → j < ops.size → q7b ops i j (R.e i, R.rd i) (R.e j, R.rd j) = true
  base : ∀ i, R.mm 0 ≤ i → R.hn 0 i = none
  le : m0 ≤ R.mm 0
variable {R : Run P ops} {m0 : Nat}
theorem good_at (h : RunOk R m0) {k : Nat} (hk : k < ops.size) : ∃ o, ops[k]? = some o ∧ R.good k o := ⟨_, Array.getElem?_eq_getElem hk, h.good k _ (Array.getElem?_eq_getElem hk)⟩
theorem q8u (h : RunOk R m0) {k : Nat} (hk : k < ops.size) : R.hn (k + 1) = (R.e k).app (R.mm k) (R.hn k) ∧ R.mm (k + 1) = R.mm k + (R.e k).cnt := by
  obtain ⟨o, _, h1, h2, h3, _⟩ := good_at h hk; exact ⟨h2, h3⟩
theorem mm_mono (h : RunOk R m0) : ∀ {j k : Nat}, j ≤ k → k ≤ ops.size → R.mm j ≤ R.mm k := by
  intro j k hjk hk
  induction k with
  | zero => have : j = 0 := by omega
            subst this; exact Nat.le_refl _
  | succ k ih =>
    rcases Nat.lt_or_ge j (k + 1) with hlt | hge
    · have := ih (by omega) (by omega)
      rw [(q8u h (by omega)).2]; omega
    · have : j = k + 1 := by omega
      subst this; exact Nat.le_refl _
theorem e_put (h : RunOk R m0) {k : Nat} (hk : k < ops.size) {id off : Nat} {l : List PV} (he : R.e k = .put id off l) : ∃ c, R.hn k id = some (.box c) ∧ off + l.length ≤ c.length := by
  obtain ⟨o, ho, _, _, _, hg⟩ := good_at h hk
  rcases hg with ⟨_, _, hg⟩ | ⟨_, ⟨g, args, _, _, _, ⟨_, hg⟩ | ⟨rf, hg, _⟩⟩ | ⟨_, hg, _⟩ | ⟨_, n1, e1, z1, fl1, _, _, hg⟩⟩
  · rw [hg] at he; cases he
  · rw [hg] at he; cases he
  · have := hg.1; rw [he] at this; simp [Eff.cnt] at this
  · rw [he] at hg; obtain ⟨c, h1, h2, _⟩ := evOp_put hg; exact ⟨c, h1, h2⟩
  · rw [hg] at he; cases he
theorem e_grow (h : RunOk R m0) {k : Nat} (hk : k < ops.size) {id e' sz : Nat} {els : List (List PV)} (he : R.e k = .grow id e' sz els) : ∃ els0, R.hn k id = some (.row e' sz els0) := by
  obtain ⟨o, ho, _, _, _, hg⟩ := good_at h hk
  rcases hg with ⟨_, _, hg⟩ | ⟨_, ⟨g, args, _, _, _, ⟨_, hg⟩ | ⟨rf, hg, _⟩⟩ | ⟨_, hg, _⟩ | ⟨_, n1, e1, z1, fl1, _, _, hg⟩⟩
  · rw [hg] at he; cases he
  · rw [hg] at he; cases he
  · have := hg.1; rw [he] at this; simp [Eff.cnt] at this
  · rw [he] at hg; exact evOp_growth hg
  · rw [hg] at he; cases he
theorem hn_free (h : RunOk R m0) : ∀ {k : Nat}, k ≤ ops.size → ∀ i, R.mm k ≤ i → R.hn k i = none
  | 0, _, i, hi => h.base i hi
  | k + 1, hk, i, hi => by
    obtain ⟨h1, h2⟩ := q8u h (k := k) (by omega)
    rw [h1]; rw [h2] at hi
    refine app_none (hn_free h (by omega)) _ (fun id e' sz els he => ?_) i hi
    obtain ⟨els0, h0⟩ := e_grow h (by omega) he
    rw [h0]; simp
/-- What an effect leaves of a box or a row that it does not make. -/
theorem app_box {e : Eff} {m : Nat} {H : Heap} (hf : ∀ id off l c, e = .put id off l → H id = some (.box c) → off + l.length ≤ c.length) (hg : ∀ id e' sz els, e = .grow id e' sz els → ∃ els0, H id = some (.row e' sz els0)) {id : Nat} (hid : id ≠ m ∨ e.cnt = 0) :
    (∀ l, H id = some (.box l) → ∃ l', e.app m H id = some (.box l') ∧ l'.length = l.length) ∧ (∀ e' sz els, H id = some (.row e' sz els) → ∃ els', e.app m H id = some (.row e' sz els')) ∧ (H id = none → e.app m H id = none) := by
  cases e with
  | nop => exact ⟨fun l hl => ⟨l, hl, rfl⟩, fun e' sz els hl => ⟨els, hl⟩, fun h => h⟩
  | new x =>
    have hne : id ≠ m := by rcases hid with h | h; exact h; simp [Eff.cnt] at h
    simp only [Eff.app]; rw [q1b _ _ hne]
    exact ⟨fun l hl => ⟨l, hl, rfl⟩, fun e' sz els hl => ⟨els, hl⟩, fun h => h⟩
  | born e' sz x =>
    have hne : id ≠ m := by rcases hid with h | h; exact h; simp [Eff.cnt] at h
    simp only [Eff.app]; rw [q1b _ _ hne]
    exact ⟨fun l hl => ⟨l, hl, rfl⟩, fun e' sz els hl => ⟨els, hl⟩, fun h => h⟩
  | put i off x =>
    simp only [Eff.app]
    cases hi : H i with
    | none => exact ⟨fun l hl => ⟨l, hl, rfl⟩, fun e' sz els hl => ⟨els, hl⟩, fun h => h⟩
    | some y =>
      cases y with
      | row _ _ _ => exact ⟨fun l hl => ⟨l, hl, rfl⟩, fun e' sz els hl => ⟨els, hl⟩, fun h => h⟩
      | box c =>
        simp only
        by_cases e : id = i
        · subst e
          rw [q1m]
          refine ⟨?_, ?_, ?_⟩
          · intro l hl
            rw [hi] at hl; cases hl
            exact ⟨_, rfl, q2v _ _ _ (hf _ _ _ _ rfl hi)⟩
          · intro e' sz els hl; rw [hi] at hl; cases hl
          · intro h; rw [hi] at h; cases h
        · rw [q1b _ _ e]
          exact ⟨fun l hl => ⟨l, hl, rfl⟩, fun e' sz els hl => ⟨els, hl⟩, fun h => h⟩
  | grow i e' sz x =>
    simp only [Eff.app]
    obtain ⟨els0, h0⟩ := hg i e' sz x rfl
    by_cases e : id = i
    · subst e
      rw [q1m]
      refine ⟨?_, ?_, ?_⟩
      · intro l hl; rw [h0] at hl; cases hl
      · intro e2 sz2 els hl; rw [h0] at hl; cases hl; exact ⟨x, rfl⟩
      · intro h; rw [h0] at h; cases h
    · rw [q1b _ _ e]
      exact ⟨fun l hl => ⟨l, hl, rfl⟩, fun e' sz els hl => ⟨els, hl⟩, fun h => h⟩
/-- What is there of what is done is there in the textual run, in the same shape. -/
structure Rel (H H' : Heap) : Prop where
  box : ∀ id l, H id = some (.box l) → ∃ l', H' id = some (.box l') ∧ l'.length = l.length
  row : ∀ id e sz els, H id = some (.row e sz els) → ∃ els', H' id = some (.row e sz els')
theorem hn_rel_succ (h : RunOk R m0) {k : Nat} (hk : k < ops.size) : Rel (R.hn k) (R.hn (k + 1)) := by
  obtain ⟨h1, h2⟩ := q8u h hk
  have key : ∀ id, R.hn k id ≠ none → _ := fun id hid => app_box (e := R.e k) (m := R.mm k) (H := R.hn k) (fun id off l c he hc => by obtain ⟨c', h3, h4⟩ := e_put h hk he; rw [hc] at h3; cases h3; exact h4) (fun id e' sz els he => e_grow h hk he) (id := id)
    (.inl fun e => hid (by rw [e]; exact hn_free h (by omega) _ (Nat.le_refl _)))
  exact ⟨fun id l hl => by rw [h1]; exact (key id (by rw [hl]; simp)).1 l hl, fun id e sz els hl => by rw [h1]; exact (key id (by rw [hl]; simp)).2.1 e sz els hl⟩
theorem Rel.trans {A B C : Heap} (h : Rel A B) (k : Rel B C) : Rel A C := by
  refine ⟨fun id l hl => ?_, fun id e sz els hl => ?_⟩
  · obtain ⟨l1, h1, h2⟩ := h.box id l hl; obtain ⟨l2, h3, h4⟩ := k.box id l1 h1; exact ⟨l2, h3, h4.trans h2⟩
  · obtain ⟨l1, h1⟩ := h.row id e sz els hl; exact k.row id e sz l1 h1
theorem ph_rel (h : RunOk R m0) (D : Nat → Bool) : ∀ {k : Nat}, k ≤ ops.size → Rel (ph R D k) (R.hn k)
  | 0, _ => ⟨fun id l hl => ⟨l, hl, rfl⟩, fun id e sz els hl => ⟨els, hl⟩⟩
  | k + 1, hk => by
    have ih := ph_rel h D (k := k) (by omega)
    have hs := hn_rel_succ h (k := k) (by omega)
    obtain ⟨h1, h2⟩ := q8u h (k := k) (by omega)
    simp only [ph]
    split
    · -- both
      have hf : ∀ id off l c, R.e k = .put id off l → ph R D k id = some (.box c) → off + l.length ≤ c.length := fun id off l c he hc => by
        obtain ⟨c', h3, h4⟩ := e_put h (by omega) he
        obtain ⟨l', h5, h6⟩ := ih.box id c hc
        rw [h3] at h5; cases h5; omega
      have fresh : ∀ id, ph R D k id ≠ none → id ≠ R.mm k := fun id hid e => by
        cases hp : ph R D k id with
        | none => exact hid hp
        | some y =>
          have hn : R.hn k id = none := hn_free h (by omega) _ (by omega)
          cases y with
          | box l => obtain ⟨l', h5, _⟩ := ih.box id l hp; rw [hn] at h5; cases h5
          | row e2 sz els => obtain ⟨l', h5⟩ := ih.row id e2 sz els hp; rw [hn] at h5; cases h5
      rw [h1]
      cases he : R.e k with
      | nop => exact ih
      | new x =>
        simp only [Eff.app]
        refine ⟨fun id l hl => ?_, fun id e sz els hl => ?_⟩
        · by_cases e : id = R.mm k
          · subst e; rw [q1m] at hl ⊢; cases hl; exact ⟨x, rfl, rfl⟩
          · rw [q1b _ _ e] at hl ⊢; exact ih.box id l hl
        · by_cases e' : id = R.mm k
          · subst e'; rw [q1m] at hl; cases hl
          · rw [q1b _ _ e'] at hl ⊢; exact ih.row id e sz els hl
      | born e2 sz2 x =>
        simp only [Eff.app]
        refine ⟨fun id l hl => ?_, fun id e sz els hl => ?_⟩
        · by_cases e : id = R.mm k
          · subst e; rw [q1m] at hl; cases hl
          · rw [q1b _ _ e] at hl ⊢; exact ih.box id l hl
        · by_cases e' : id = R.mm k
          · subst e'; rw [q1m] at hl ⊢; cases hl; exact ⟨x, rfl⟩
          · rw [q1b _ _ e'] at hl ⊢; exact ih.row id e sz els hl
      | put i off x =>
        obtain ⟨c, h3, h4⟩ := e_put h (by omega) he
        simp only [Eff.app, h3]
        cases hp : ph R D k i with
        | none =>
          refine ⟨fun id l hl => ?_, fun id e sz els hl => ?_⟩
          · have e : id ≠ i := fun e => by subst e; simp only at hl; rw [hp] at hl; cases hl
            rw [q1b _ _ e]; exact ih.box id l hl
          · have e : id ≠ i := fun e => by subst e; simp only at hl; rw [hp] at hl; cases hl
            rw [q1b _ _ e]; exact ih.row id _ sz els hl
        | some y =>
          cases y with
          | row e2 sz2 els2 => obtain ⟨l', h5⟩ := ih.row i e2 sz2 els2 hp; rw [h3] at h5; cases h5
          | box c2 =>
            simp only
            refine ⟨fun id l hl => ?_, fun id e sz els hl => ?_⟩
            · by_cases e : id = i
              · subst e
                rw [q1m] at hl ⊢; cases hl
                refine ⟨_, rfl, ?_⟩
                rw [q2v _ _ _ h4, q2v _ _ _ (hf _ _ _ _ he hp)]
                obtain ⟨l', h5, h6⟩ := ih.box id c2 hp
                rw [h3] at h5; cases h5; exact h6
              · rw [q1b _ _ e] at hl ⊢; exact ih.box id l hl
            · by_cases e' : id = i
              · subst e'; rw [q1m] at hl; cases hl
              · rw [q1b _ _ e'] at hl ⊢; exact ih.row id e sz els hl
      | grow i e2 sz2 x =>
        obtain ⟨els0, h3⟩ := e_grow h (by omega) he
        simp only [Eff.app]
        refine ⟨fun id l hl => ?_, fun id e sz els hl => ?_⟩
        · by_cases e : id = i
          · subst e; rw [q1m] at hl; cases hl
          · rw [q1b _ _ e] at hl ⊢; exact ih.box id l hl
        · by_cases e' : id = i
          · subst e'; rw [q1m] at hl ⊢; cases hl; exact ⟨x, rfl⟩
          · rw [q1b _ _ e'] at hl ⊢; exact ih.row id e sz els hl
    · exact ih.trans hs
end
end Go.Proofs.YtoibbedpaaeclaaGreat
end

section
namespace Go.Proofs.YtoibbedpaaeclaaGreat
open Go Go.RowKit
set_option linter.unusedVariables false
set_option linter.unusedSimpArgs false
section
variable {P : Program} {ops : Array Oper}
def Eff.tgt (m : Nat) : Eff → Option Nat
  | .nop => none
  | .new _ => some m
  | .born _ _ _ => some m
  | .put id _ _ => some id
  | .grow id _ _ _ => some id
def Eff.val : Eff → Option HE → Option HE
  | .nop, y => y
  | .new l, _ => some (.box l)
  | .born e sz els, _ => some (.row e sz els)
  | .put _ off x, y => match y with
    | some (.box l) => some (.box (splice l off x))
    | y => y
  | .grow _ e sz els, _ => some (.row e sz els)
theorem app_eq (e : Eff) (m : Nat) (X : Heap) : e.app m X = fun i => if e.tgt m = some i then e.val (X i) else X i := by
  funext i
  cases e with
  | nop => simp [Eff.app, Eff.tgt]
  | new l => simp only [Eff.app, Eff.tgt, Eff.val, hset, Option.some.injEq]; by_cases h : i = m
             · simp [h]
             · rw [if_neg h, if_neg (Ne.symm h)]
  | born e' sz els => simp only [Eff.app, Eff.tgt, Eff.val, hset, Option.some.injEq]; by_cases h : i = m
                      · simp [h]
                      · rw [if_neg h, if_neg (Ne.symm h)]
  | grow id e' sz els => simp only [Eff.app, Eff.tgt, Eff.val, hset, Option.some.injEq]; by_cases h : i = id
                         · simp [h]
                         · rw [if_neg h, if_neg (Ne.symm h)]
  | put id off x =>
    simp only [Eff.app, Eff.tgt, Eff.val, Option.some.injEq]
    cases hid : X id with
    | none =>
      by_cases h : i = id
      · subst h; simp [hid]
      · rw [if_neg (Ne.symm h)]
    | some y =>
      cases y with
      | row _ _ _ =>
        by_cases h : i = id
        · subst h; simp [hid]
        · rw [if_neg (Ne.symm h)]
      | box l =>
        simp only [hset]
        by_cases h : i = id
        · subst h; simp [hid]
        · rw [if_neg h, if_neg (Ne.symm h)]
theorem q3l {e : Eff} {m : Nat} {X : Heap} {i : Nat} (h : e.tgt m ≠ some i) : e.app m X i = X i := by rw [app_eq]; simp [h]
theorem q5b {e : Eff} {m : Nat} {X : Heap} {i : Nat} (h : e.tgt m = some i) : e.app m X i = e.val (X i) := by rw [app_eq]; simp [h]
theorem comm_ne {e1 e2 : Eff} {m1 m2 : Nat} {X : Heap} (h : ∀ i, e1.tgt m1 = some i → e2.tgt m2 ≠ some i) : e2.app m2 (e1.app m1 X) = e1.app m1 (e2.app m2 X) := by
  funext i
  by_cases h1 : e1.tgt m1 = some i
  · rw [q3l (h i h1), q5b h1, q5b h1, q3l (h i h1)]
  · rw [q3l (e := e1) h1]
    by_cases h2 : e2.tgt m2 = some i
    · rw [q5b h2, q5b h2, q3l h1]
    · rw [q3l h2, q3l h2, q3l h1]
theorem splice_comm {α : Type} {l x y : List α} {a b : Nat} (ha : a + x.length ≤ l.length) (hb : b + y.length ≤ l.length) (h : x.length = 0 ∨ y.length = 0 ∨ a + x.length ≤ b ∨ b + y.length ≤ a) : splice (splice l a x) b y = splice (splice l b y) a x := by
  apply List.ext_getElem?
  intro i
  rw [q4o (splice l a x) b y (by rw [q2v _ _ _ ha]; exact hb), q4o l a x ha, q4o (splice l b y) a x (by rw [q2v _ _ _ hb]; exact ha), q4o l b y hb]
  by_cases h1 : b ≤ i ∧ i < b + y.length <;> by_cases h2 : a ≤ i ∧ i < a + x.length
  · omega
  · rw [if_pos h1, if_neg h2, if_pos h1]
  · rw [if_neg h1, if_pos h2, if_pos h2]
  · rw [if_neg h1, if_neg h2, if_neg h2, if_neg h1]
theorem splice_range {α : Type} {l x : List α} {a lo hi : Nat} (ha : a + x.length ≤ l.length) (h : x.length = 0 ∨ hi ≤ lo ∨ hi ≤ a ∨ a + x.length ≤ lo) : ((splice l a x).drop lo).take (hi - lo) = (l.drop lo).take (hi - lo) := by
  apply List.ext_getElem?
  intro i
  rw [List.getElem?_take, List.getElem?_take]
  split
  · rw [List.getElem?_drop, List.getElem?_drop, q4o _ _ _ ha, if_neg (by omega)]
  · rfl
variable {R : Run P ops} {m0 : Nat}
theorem ph_free (h : RunOk R m0) (D : Nat → Bool) {k : Nat} (hk : k ≤ ops.size) (i : Nat) (hi : R.mm k ≤ i) : ph R D k i = none := by
  cases hp : ph R D k i with
  | none => rfl
  | some y =>
    have hr := ph_rel h D hk
    have hn := hn_free h hk i hi
    cases y with
    | box l => obtain ⟨l', h1, _⟩ := hr.box i l hp; rw [hn] at h1; cases h1
    | row e sz els => obtain ⟨l', h1⟩ := hr.row i e sz els hp; rw [hn] at h1; cases h1
theorem tgt_lt (h : RunOk R m0) {k : Nat} (hk : k < ops.size) {i : Nat} (ht : (R.e k).tgt (R.mm k) = some i) (hc : (R.e k).cnt = 0) : i < R.mm k := by
  cases he : R.e k with
  | nop => rw [he] at ht; cases ht
  | new l => rw [he] at hc; simp [Eff.cnt] at hc
  | born _ _ _ => rw [he] at hc; simp [Eff.cnt] at hc
  | put id off l =>
    rw [he] at ht; cases ht
    obtain ⟨c, h1, _⟩ := e_put h hk he
    exact Nat.lt_of_not_le fun hle => by rw [hn_free h (by omega) _ hle] at h1; cases h1
  | grow id e' sz els =>
    rw [he] at ht; cases ht
    obtain ⟨c, h1⟩ := e_grow h hk he
    exact Nat.lt_of_not_le fun hle => by rw [hn_free h (by omega) _ hle] at h1; cases h1
theorem tgt_new {e : Eff} {m i : Nat} (hc : e.cnt ≠ 0) : e.tgt m = some i ↔ i = m := by
  cases e with
  | new l => simp [Eff.tgt, eq_comm]
  | born _ _ _ => simp [Eff.tgt, eq_comm]
  | _ => simp [Eff.cnt] at hc
/-- Two parts of the region leave the same where nothing is written. -/
theorem ph_same (h : RunOk R m0) (D1 D2 : Nat → Bool) (id : Nat) (hno : ∀ k, k < ops.size → (D1 k = true ∨ D2 k = true) → (R.e k).cnt = 0 → (R.e k).tgt (R.mm k) = some id → D1 k = true ∧ D2 k = true) :
    ∀ {k : Nat}, k ≤ ops.size → ph R D1 k id ≠ none → ph R D2 k id ≠ none → ph R D1 k id = ph R D2 k id
  | 0, _, _, _ => rfl
  | k + 1, hk, h1, h2 => by
    have ih := ph_same h D1 D2 id hno (k := k) (by omega)
    have fresh : ∀ D, ph R D k id ≠ none → id ≠ R.mm k := fun D hd e => hd (ph_free h D (by omega) id (by omega))
    simp only [ph] at h1 h2 ⊢
    by_cases d1 : D1 k = true <;> by_cases d2 : D2 k = true <;> simp only [d1, d2, if_true, if_false, Bool.false_eq_true] at h1 h2 ⊢
    · by_cases ht : (R.e k).tgt (R.mm k) = some id
      · rw [q5b ht] at h1 h2
        rw [q5b ht, q5b ht]
        cases he : R.e k with
        | nop => rw [he] at ht; cases ht
        | new l => rfl
        | born e sz els => rfl
        | grow i e sz els => rfl
        | put i off x =>
          rw [he] at h1 h2
          have n1 : ph R D1 k id ≠ none := fun hn => h1 (by rw [hn]; rfl)
          have n2 : ph R D2 k id ≠ none := fun hn => h2 (by rw [hn]; rfl)
          rw [ih n1 n2]
      · rw [q3l ht] at h1 h2 ⊢; rw [q3l ht]; exact ih h1 h2
    · by_cases ht : (R.e k).tgt (R.mm k) = some id
      · have hc : (R.e k).cnt ≠ 0 := fun hc => d2 (hno k (by omega) (.inl d1) hc ht).2
        exact absurd ((tgt_new hc).1 ht) (fresh D2 h2)
      · rw [q3l ht] at h1 ⊢; exact ih h1 h2
    · by_cases ht : (R.e k).tgt (R.mm k) = some id
      · have hc : (R.e k).cnt ≠ 0 := fun hc => d1 (hno k (by omega) (.inr d2) hc ht).1
        exact absurd ((tgt_new hc).1 ht) (fresh D1 h1)
      · rw [q3l ht] at h2 ⊢; exact ih h1 h2
    · exact ih h1 h2
/-- .. and where other cells of the box are written. -/
theorem ph_range (h : RunOk R m0) (D1 D2 : Nat → Bool) (id lo hi : Nat) (hno : ∀ k, k < ops.size → (D1 k = true ∨ D2 k = true) → (R.e k).isGrow = true ∨ ∀ g ∈ (R.e k).wr, g.meets ⟨id, lo, hi, false⟩ = false) :
    ∀ {k : Nat}, k ≤ ops.size → ∀ l1 l2, ph R D1 k id = some (.box l1) → ph R D2 k id = some (.box l2) → l1.length = l2.length ∧ (l1.drop lo).take (hi - lo) = (l2.drop lo).take (hi - lo)
  | 0, _, l1, l2, h1, h2 => by simp only [ph] at h1 h2; rw [h1] at h2; cases h2; exact ⟨rfl, rfl⟩
  | k + 1, hk, l1, l2, h1, h2 => by
    have ih := ph_range h D1 D2 id lo hi hno (k := k) (by omega)
    have fresh : ∀ D y, ph R D k id = some y → id ≠ R.mm k := fun D y hd e => by rw [ph_free h D (by omega) id (by omega)] at hd; cases hd
    -- an effect on a box that is there
    have one : ∀ (D : Nat → Bool) (l : List PV), (D1 k = true ∨ D2 k = true) → (R.e k).app (R.mm k) (ph R D k) id = some (.box l) → ((R.e k).cnt ≠ 0 ∧ id = R.mm k ∧ (R.e k).val none = some (.box l)) ∨ ∃ c, ph R D k id = some (.box c) ∧ c.length = l.length ∧ (c.drop lo).take (hi - lo) = (l.drop lo).take (hi - lo) := by
      intro D l hor hl
      by_cases ht : (R.e k).tgt (R.mm k) = some id
      · rw [q5b ht] at hl
        cases he : R.e k with
        | nop => rw [he] at ht; cases ht
        | new x => rw [he] at ht hl; cases ht; exact .inl ⟨by simp [Eff.cnt], rfl, by simpa [Eff.val] using hl⟩
        | born e' sz els => rw [he] at hl; simp [Eff.val] at hl
        | grow i e' sz els => rw [he] at hl; simp [Eff.val] at hl
        | put i off x =>
          rw [he] at ht hl; cases ht
          have hm := (hno k (by omega) hor).resolve_left (by rw [he]; simp [Eff.isGrow]) ⟨id, off, off + x.length, false⟩ (by rw [he]; simp [Eff.wr])
          simp [Rg.meets] at hm
          cases hp : ph R D k id with
          | none => rw [hp] at hl; simp [Eff.val] at hl
          | some y =>
            rw [hp] at hl
            cases y with
            | row _ _ _ => simp [Eff.val] at hl
            | box c =>
              simp only [Eff.val, Option.some.injEq, HE.box.injEq] at hl
              subst hl
              obtain ⟨c', h3, h4⟩ := e_put h (by omega) he
              obtain ⟨l', h5, h6⟩ := (ph_rel h D (k := k) (by omega)).box id c hp
              rw [h3] at h5; cases h5
              exact .inr ⟨c, rfl, (q2v _ _ _ (by omega)).symm, (splice_range (by omega) (by omega)).symm⟩
      · rw [q3l ht] at hl; exact .inr ⟨l, hl, rfl, rfl⟩
    simp only [ph] at h1 h2
    by_cases d1 : D1 k = true <;> by_cases d2 : D2 k = true <;> simp only [d1, d2, if_true, if_false, Bool.false_eq_true] at h1 h2
    · rcases one D1 l1 (.inl d1) h1 with ⟨a1, a2, a3⟩ | ⟨c1, a1, a2, a3⟩ <;> rcases one D2 l2 (.inl d1) h2 with ⟨b1, b2, b3⟩ | ⟨c2, b1, b2, b3⟩
      · rw [a3] at b3; cases b3; exact ⟨rfl, rfl⟩
      · exact absurd a2 (fresh D2 _ b1)
      · exact absurd b2 (fresh D1 _ a1)
      · obtain ⟨g1, g2⟩ := ih c1 c2 a1 b1
        exact ⟨by omega, by rw [← a3, ← b3]; exact g2⟩
    · rcases one D1 l1 (.inl d1) h1 with ⟨a1, a2, a3⟩ | ⟨c1, a1, a2, a3⟩
      · exact absurd a2 (fresh D2 _ h2)
      · obtain ⟨g1, g2⟩ := ih c1 l2 a1 h2
        exact ⟨by omega, by rw [← a3]; exact g2⟩
    · rcases one D2 l2 (.inr d2) h2 with ⟨b1, b2, b3⟩ | ⟨c2, b1, b2, b3⟩
      · exact absurd b2 (fresh D1 _ h1)
      · obtain ⟨g1, g2⟩ := ih l1 c2 h1 b1
        exact ⟨by omega, by rw [← b3]; exact g2⟩
    · exact ih l1 l2 h1 h2
theorem x0p (R : Run P ops) {D1 D2 : Nat → Bool} : ∀ {k : Nat}, (∀ i, i < k → D1 i = D2 i) → ph R D1 k = ph R D2 k
  | 0, _ => rfl
  | k + 1, h => by simp only [ph]; rw [h k (by omega), x0p R (k := k) (fun i hi => h i (by omega))]
theorem q9g (R : Run P ops) {D1 D2 : Nat → Bool} : ∀ {k : Nat}, (∀ i, i < k → D1 i = D2 i) → pe R D1 k = pe R D2 k
  | 0, _ => rfl
  | k + 1, h => by simp only [pe]; rw [h k (by omega), q9g R (k := k) (fun i hi => h i (by omega))]
def before (j : Nat) : Nat → Bool := fun i => decide (i < j)
theorem hn_ph (h : RunOk R m0) (j : Nat) : ∀ {k : Nat}, k ≤ ops.size → ph R (before j) k = R.hn (min k j)
  | 0, _ => by rw [Nat.zero_min]; rfl
  | k + 1, hk => by
    simp only [ph, hn_ph h j (k := k) (by omega)]
    by_cases hkj : k < j
    · rw [if_pos (by simp [before, hkj]), Nat.min_eq_left (by omega), Nat.min_eq_left (by omega)]
      exact (q8u h (by omega)).1.symm
    · rw [if_neg (by simp [before, hkj]), Nat.min_eq_right (by omega), Nat.min_eq_right (by omega)]
theorem en_pe (h : RunOk R m0) (j : Nat) : ∀ {k : Nat}, k ≤ ops.size → pe R (before j) k = R.en (min k j)
  | 0, _ => by rw [Nat.zero_min]; rfl
  | k + 1, hk => by
    simp only [pe, en_pe h j (k := k) (by omega)]
    by_cases hkj : k < j
    · rw [if_pos (by simp [before, hkj]), Nat.min_eq_left (by omega), Nat.min_eq_left (by omega)]
      obtain ⟨o, ho, h1, _⟩ := good_at h (k := k) (by omega)
      rw [h1]; simp [q9u, ho]
    · rw [if_neg (by simp [before, hkj]), Nat.min_eq_right (by omega), Nat.min_eq_right (by omega)]
theorem pe_get (R : Run P ops) (D1 D2 : Nat → Bool) (t : Tmp) : ∀ {k : Nat}, (∀ i, i < k → q9u ops i = some t → D1 i = D2 i) → pe R D1 k t = pe R D2 k t
  | 0, _ => rfl
  | k + 1, h => by
    have ih := pe_get R D1 D2 t (k := k) (fun i hi => h i (by omega))
    simp only [pe]
    by_cases hd : q9u ops k = some t
    · rw [h k (by omega) hd]
      split
      · rw [q8i, q8i, if_pos hd, if_pos hd]
      · exact ih
    · have e : ∀ E : Env, upd E (q9u ops k) (R.r k) t = E t := fun E => by rw [q8i, if_neg hd]
      split <;> split <;> (try rw [e]) <;> (try rw [e]) <;> exact ih
def q2u (D : Nat → Bool) (j : Nat) : Nat → Bool := fun i => if i = j then true else D i
theorem pe_insert (R : Run P ops) (D : Nat → Bool) {j : Nat} (hD : D j = false) (hd : ∀ i d, i ≠ j → i < ops.size → q9u ops j = some d → q9u ops i ≠ some d) : ∀ {k : Nat}, j < k → k ≤ ops.size → pe R (q2u D j) k = upd (pe R D k) (q9u ops j) (R.r j)
  | 0, h, _ => by omega
  | k + 1, hjk, hk => by
    simp only [pe]
    by_cases e : k = j
    · subst e
      rw [if_pos (by simp [q2u]), if_neg (by simp [hD]), q9g R (D1 := q2u D k) (D2 := D) (fun i hi => by simp [q2u, show i ≠ k by omega])]
    · rw [pe_insert R D hD hd (k := k) (by omega) (by omega), show q2u D j k = D k by simp [q2u, e]]
      split
      · funext t
        rw [q8i, q8i, q8i, q8i]
        by_cases h1 : q9u ops k = some t
        · rw [if_pos h1, if_neg (fun h2 => hd k t e (by omega) h2 h1), if_pos h1]
        · rw [if_neg h1, if_neg h1]
      · rfl
theorem ph_insert (h : RunOk R m0) (D : Nat → Bool) {j : Nat} (hj : j < ops.size) (hD : D j = false) (hcl : ∀ k, j < k → k < ops.size → D k = true → (R.e k).cnt = 0 → (R.e j).cnt ≠ 0 → (R.e k).tgt (R.mm k) ≠ some (R.mm j)) :
    ∀ {k : Nat}, j < k → k ≤ ops.size → ph R (q2u D j) k = (R.e j).app (R.mm j) (ph R D k)
  | 0, hjk, _ => by omega
  | k + 1, hjk, hk => by
    simp only [ph]
    by_cases e : k = j
    · subst e
      rw [if_pos (by simp [q2u]), if_neg (by simp [hD]), x0p R (D1 := q2u D k) (D2 := D) (fun i hi => by simp [q2u, show i ≠ k by omega])]
    · rw [ph_insert h D hj hD hcl (k := k) (by omega) (by omega), show q2u D j k = D k by simp [q2u, e]]
      by_cases hk1 : D k = true
      · rw [if_pos hk1, if_pos hk1]
        have hjk' : j < k := by omega
        have hok := h.pair j k hjk' (by omega)
        simp only [q7b, Bool.and_eq_true] at hok
        obtain ⟨hww, _⟩ := hok
        by_cases hne : ∀ i, (R.e j).tgt (R.mm j) = some i → (R.e k).tgt (R.mm k) ≠ some i
        · exact comm_ne hne
        · -- one target
          obtain ⟨i, hi⟩ : ∃ i, ¬ ((R.e j).tgt (R.mm j) = some i → (R.e k).tgt (R.mm k) ≠ some i) := Classical.not_forall.1 hne
          obtain ⟨t1, t2⟩ : (R.e j).tgt (R.mm j) = some i ∧ (R.e k).tgt (R.mm k) = some i := ⟨Classical.byContradiction fun hc => hi fun hq => absurd hq hc, Classical.byContradiction fun hc => hi fun _ => hc⟩
          have hmm : R.mm (j + 1) ≤ R.mm k := mm_mono h (by omega) (by omega)
          rw [(q8u h hj).2] at hmm
          have c1 : (R.e j).cnt = 0 := Classical.byContradiction fun hc => by
            have e1 := (tgt_new hc).1 t1
            by_cases c2 : (R.e k).cnt = 0
            · exact hcl k hjk' (by omega) hk1 c2 hc (by rw [t2, e1])
            · have e2 := (tgt_new c2).1 t2
              have : (R.e j).cnt = 1 := by cases hq : R.e j <;> simp_all [Eff.cnt]
              omega
          have c2 : (R.e k).cnt = 0 := Classical.byContradiction fun hc => by
            have e2 := (tgt_new hc).1 t2
            have := tgt_lt h hj t1 c1
            omega
          cases e1 : R.e j with
          | nop => rw [e1] at t1; cases t1
          | new _ => rw [e1] at c1; simp [Eff.cnt] at c1
          | born _ _ _ => rw [e1] at c1; simp [Eff.cnt] at c1
          | grow i1 _ _ _ =>
            exfalso
            rw [e1] at t1 hww; cases t1
            cases e2 : R.e k with
            | nop => rw [e2] at t2; cases t2
            | new _ => rw [e2] at c2; simp [Eff.cnt] at c2
            | born _ _ _ => rw [e2] at c2; simp [Eff.cnt] at c2
            | grow _ _ _ _ => rw [e2] at t2 hww; cases t2; simp [q6z, Eff.wr, Rg.meets] at hww
            | put _ _ _ => rw [e2] at t2 hww; cases t2; simp [q6z, Eff.wr, Rg.meets] at hww
          | put i1 off1 x1 =>
            rw [e1] at t1 hww; cases t1
            cases e2 : R.e k with
            | nop => rw [e2] at t2; cases t2
            | new _ => rw [e2] at c2; simp [Eff.cnt] at c2
            | born _ _ _ => rw [e2] at c2; simp [Eff.cnt] at c2
            | grow _ _ _ _ => exfalso; rw [e2] at t2 hww; cases t2; simp [q6z, Eff.wr, Rg.meets] at hww
            | put i2 off2 x2 =>
              rw [e2] at t2 hww; cases t2
              simp [q6z, Eff.wr, Rg.meets] at hww
              funext q
              by_cases hq : q = i
              · subst hq
                have T1 : (Eff.put q off1 x1).tgt (R.mm j) = some q := rfl
                have T2 : (Eff.put q off2 x2).tgt (R.mm k) = some q := rfl
                rw [q5b T2, q5b T1, q5b T1, q5b T2]
                cases hp : ph R D k q with
                | none => rfl
                | some y =>
                  cases y with
                  | row _ _ _ => rfl
                  | box c =>
                    simp only [Eff.val, Option.some.injEq, HE.box.injEq]
                    obtain ⟨l', h5, h6⟩ := (ph_rel h D (k := k) (by omega)).box q c hp
                    obtain ⟨a1, h1, h2⟩ := e_put h hj e1
                    obtain ⟨a2, h3, h4⟩ := e_put h (k := k) (by omega) e2
                    rw [h5] at h3; cases h3
                    have hlen : a1.length = l'.length := by
                      have key : ∀ n, j ≤ n → n ≤ k → ∃ a, R.hn n q = some (.box a) ∧ a.length = a1.length := by
                        intro n
                        induction n with
                        | zero => intro hn _; have : j = 0 := by omega
                                  subst this; exact ⟨a1, h1, rfl⟩
                        | succ n ih =>
                          intro hn1 hn2
                          rcases Nat.lt_or_ge n j with hlt | hge
                          · have : j = n + 1 := by omega
                            subst this; exact ⟨a1, h1, rfl⟩
                          · obtain ⟨a, g1, g2⟩ := ih hge (by omega)
                            obtain ⟨b, g3, g4⟩ := (hn_rel_succ h (k := n) (by omega)).box q a g1
                            exact ⟨b, g3, g4.trans g2⟩
                      obtain ⟨a, g1, g2⟩ := key k (by omega) (Nat.le_refl _)
                      rw [h5] at g1; cases g1; exact g2.symm
                    exact splice_comm (by omega) (by omega) (by omega)
              · have T1 : (Eff.put i off1 x1).tgt (R.mm j) ≠ some q := by simp [Eff.tgt, Ne.symm hq]
                have T2 : (Eff.put i off2 x2).tgt (R.mm k) ≠ some q := by simp [Eff.tgt, Ne.symm hq]
                rw [q3l T2, q3l T1, q3l T1, q3l T2]
      · rw [if_neg hk1, if_neg hk1]
end
end Go.Proofs.YtoibbedpaaeclaaGreat
end

section
namespace Go.Proofs.YtoibbedpaaeclaaGreat
open Go Go.RowKit
set_option linter.unusedVariables false
set_option linter.unusedSimpArgs false
section
variable {P : Program} {ops : Array Oper}
theorem cut_congr {t : TypeId} {l l' : List PV} {off : Nat} (hl : l.length = l'.length) (hr : (l.drop off).take (if aggT P t = some true then P.cellsOf t else 1) = (l'.drop off).take (if aggT P t = some true then P.cellsOf t else 1)) : cut P t l off = cut P t l' off := by
  unfold Go.Proofs.YtoibbedpaaeclaaGreat.cut
  split
  · rename_i ha
    rw [if_pos ha] at hr
    rw [hl, hr]
  · rename_i ha
    rw [if_neg (by rw [ha]; simp)] at hr
    have h1 : ∀ k : List PV, k[off]? = ((k.drop off).take 1)[0]? := fun k => by rw [List.getElem?_take, if_pos (by omega), List.getElem?_drop, Nat.add_zero]
    rw [h1 l, h1 l', hr]
  · rfl
theorem evAppend_gr {id k m t t' : Nat} {y : PV} {H : Heap} {x : PV × Eff} (he : q4d P (.gr id k) y H m t t' = some x) : ∃ e sz els, H id = some (.row e sz els) := by
  unfold q4d at he
  split at he <;> (try (simp at he; done))
  split at he <;> (try (simp at he; done))
  split at he <;> (try (simp at he; done))
  split at he <;> (try (simp at he; done))
  split at he <;> (try (simp at he; done))
  simp only at he
  split at he <;> (try (simp at he; done))
  rename_i e sz els hid
  exact ⟨e, sz, els, hid⟩
theorem evOp_heap {ρ : Operand → PV} {s : PV → PV} {H H' : Heap} {m : Nat} {op : Op} {x : PV × Eff} (he : evOp P ρ s H m op = some x)
    (cb : ∀ y ∈ op.operands, ∀ id off, ρ y = .ptr id off → ∀ l, H id = some (.box l) → ∃ l', H' id = some (.box l') ∧ l.length = l'.length ∧ ∀ g ∈ rdOf P ρ op, g.id = id → g.whole = false → (l.drop g.lo).take (g.hi - g.lo) = (l'.drop g.lo).take (g.hi - g.lo))
    (cr : ∀ y ∈ op.operands, ∀ id k, ρ y = .gr id k → (⟨id, 0, 0, true⟩ : Rg) ∈ rdOf P ρ op → ∀ e sz els, H id = some (.row e sz els) → H' id = H id) : evOp P ρ s H' m op = some x := by
  cases op
  case load t a =>
    simp only [evOp] at he ⊢
    cases hp : ρ a with
    | ptr id off =>
      rw [hp] at he
      simp only at he ⊢
      split at he
      · rename_i l hid
        obtain ⟨l', h1, h2, h3⟩ := cb a (by simp [Op.operands]) id off hp l hid
        have := h3 ⟨id, off, off + (if aggT P t = some true then P.cellsOf t else 1), false⟩ (by simp [rdOf, hp]) rfl rfl
        simp only [Nat.add_sub_cancel_left] at this
        rw [h1]
        simp only
        rw [← cut_congr h2 this]; exact he
      · cases he
    | _ => rw [hp] at he; exact he
  case store t a y =>
    simp only [evOp] at he ⊢
    cases hp : ρ a with
    | ptr id off =>
      rw [hp] at he
      simp only at he ⊢
      split at he
      · rename_i l hl
        split at he
        · rename_i c hid
          obtain ⟨l', h1, h2, h3⟩ := cb a (by simp [Op.operands]) id off hp c hid
          rw [h1]
          simp only
          rw [← h2]; exact he
        · cases he
      · cases he
    | _ => rw [hp] at he; exact he
  case call c =>
    simp only [evOp] at he ⊢
    cases hc : c.callee with
    | value f => rw [hc] at he; exact he
    | invoke r n => rw [hc] at he; exact he
    | builtin b =>
      rw [hc] at he
      cases b <;> first
        | exact he
        | ((try simp only at he ⊢)
           split at he
           · rename_i x1 t1 ha ht
             (try simp only at he ⊢)
             split at he
             · rename_i hn
               rw [if_pos hn]
               cases hp : ρ x1 with
               | gr id k =>
                 rw [hp] at he
                 have hargs : c.args.toList = [x1] := by
                   obtain ⟨callee, args, ats⟩ := c
                   obtain ⟨args⟩ := args
                   simp only [List.size_toArray] at hn
                   obtain ⟨y, rfl⟩ := List.length_eq_one_iff.1 hn
                   simp at ha; subst ha; rfl
                 rw [← he]
                 unfold evLenG at he ⊢
                 simp only at he ⊢
                 cases hu : P.underlying t1 with
                 | none => rfl
                 | some d =>
                   cases d with
                   | slice e0 =>
                     rw [hu] at he
                     simp only at he ⊢
                     cases hid : H id with
                     | none => rw [hid] at he; simp at he
                     | some z =>
                       cases z with
                       | box l => rw [hid] at he; simp at he
                       | row e sz els =>
                         have : H' id = H id := cr x1 (by
                           have : x1 ∈ c.args := Array.mem_toList_iff.1 (by rw [hargs]; simp)
                           simp [Op.operands, Call.operands, hc, this]) id k hp (by simp [rdOf, hargs, hp]) e sz els hid
                         rw [this, hid]
                   | _ => rfl
               | _ => rw [hp] at he; unfold evLenG at he ⊢; exact he
             · cases he
           · cases he)
        | ((try simp only at he ⊢)
           split at he
           · rename_i x1 y1 t1 t2 ha ht
             (try simp only at he ⊢)
             cases hp : ρ x1 with
             | gr id k =>
               rw [hp] at he
               obtain ⟨e, sz, els, hid⟩ := evAppend_gr he
               have : H' id = H id := cr x1 (by
                 have : x1 ∈ c.args := Array.mem_toList_iff.1 (by rw [ha]; simp)
                 simp [Op.operands, Call.operands, hc, this]) id k hp (by simp [rdOf, ha, hp]) e sz els hid
               rw [← he]
               unfold q4d
               simp only [this]
             | _ => rw [hp] at he; unfold q4d at he ⊢; exact he
           · cases he)
  case slice t x lo hi mx => cases mx <;> exact he
  case typeAssert x xt t ok => cases ok <;> exact he
  all_goals exact he
theorem meets_comm (a b : Rg) : a.meets b = b.meets a := by
  unfold Rg.meets
  rw [show (a.id == b.id) = (b.id == a.id) from Bool.beq_comm]
  cases a.whole <;> cases b.whole <;> simp [Bool.and_comm]
theorem apart_get {a b : List Rg} (h : q6z a b = true) {x y : Rg} (hx : x ∈ a) (hy : y ∈ b) : x.meets y = false := by
  have := List.all_eq_true.1 (List.all_eq_true.1 h x hx) y hy
  simpa using this
variable {R : Run P ops} {m0 : Nat}
theorem wr_rd (h : RunOk R m0) {j k : Nat} (hj : j < ops.size) (hk : k < ops.size) (hne : k ≠ j) (hex : j < k → q5f ops ops.size k j = false) : ((R.e k).isGrow = true ∧ k < j ∧ q5f ops ops.size j k = true) ∨ ∀ g' ∈ (R.e k).wr, ∀ g ∈ R.rd j, g'.meets g = false := by
  rcases Nat.lt_or_ge k j with hlt | hge
  · have := h.pair k j hlt hj
    simp only [q7b, Bool.and_eq_true, Bool.or_eq_true] at this
    rcases this.2.1 with h1 | h1
    · exact .inr fun g' hg' g hg => apart_get h1 hg' hg
    · exact .inl ⟨h1.1, hlt, h1.2⟩
  · refine .inr fun g' hg' g hg => ?_
    have := h.pair j k (by omega) hk
    simp only [q7b, Bool.and_eq_true, hex (by omega), Bool.or_false] at this
    rw [meets_comm]; exact apart_get this.2.2 hg hg'
/-- What an operation reads stands there, whatever else has been done. -/
theorem part_reads (h : RunOk R m0) (D : Nat → Bool) {j : Nat} (hj : j < ops.size) (hD : D j = false) (hex : ∀ k, D k = true → q5f ops ops.size k j = false) (hdep : ∀ k, q5f ops ops.size j k = true → D k = true) {ρ : Operand → PV} {op : Op} (hrd : R.rd j = rdOf P ρ op)
    (hlive : ∀ y ∈ op.operands, (∀ id off, ρ y = .ptr id off → ph R D ops.size id ≠ none) ∧ (∀ id k, ρ y = .gr id k → ph R D ops.size id ≠ none)) {s : PV → PV} {m : Nat} {x : PV × Eff} (he : evOp P ρ s (R.hn j) m op = some x) : evOp P ρ s (ph R D ops.size) m op = some x := by
  have hb : R.hn j = ph R (before j) ops.size := by rw [hn_ph h j (Nat.le_refl _), Nat.min_eq_right (by omega)]
  have hor : ∀ k, (before j k = true ∨ D k = true) → k ≠ j := fun k hk e => by
    subst e; simp [before, hD] at hk
  have hexo : ∀ k, (before j k = true ∨ D k = true) → j < k → q5f ops ops.size k j = false := fun k hk hjk => by
    rcases hk with hk | hk
    · exfalso; simp [before] at hk; omega
    · exact hex k hk
  refine evOp_heap he (fun y hy id off hp l hl => ?_) (fun y hy id k hp hg e sz els hl => ?_)
  · have hlv := (hlive y hy).1 id off hp
    rw [hb] at hl
    obtain ⟨l2, g1, g2⟩ := (ph_rel h (before j) (Nat.le_refl _)).box id l hl
    cases hq : ph R D ops.size id with
    | none => exact absurd hq hlv
    | some z =>
      cases z with
      | row e2 sz2 els2 => obtain ⟨l3, g3⟩ := (ph_rel h D (Nat.le_refl _)).row id e2 sz2 els2 hq; rw [g1] at g3; cases g3
      | box l' =>
        obtain ⟨l3, g3, g4⟩ := (ph_rel h D (Nat.le_refl _)).box id l' hq
        rw [g1] at g3; cases g3
        refine ⟨l', rfl, by omega, fun g hg hgid hgw => ?_⟩
        obtain ⟨gid, glo, ghi, gw⟩ := g
        simp only at hgid hgw
        subst hgid
        subst hgw
        obtain ⟨_, g5⟩ := ph_range h (before j) D gid glo ghi (fun k hk hkor => (wr_rd h hj hk (hor k hkor) (hexo k hkor)).imp (fun q => q.1) (fun q g' hg' => q g' hg' _ (by rw [hrd]; exact hg))) (Nat.le_refl _) l l' hl hq
        exact g5
  · have hlv := (hlive y hy).2 id k hp
    rw [hb] at hl ⊢
    refine (ph_same h (before j) D id (fun k' hk' hkor hc ht => ?_) (Nat.le_refl _) (by rw [hl]; simp) hlv).symm
    rcases wr_rd h hj hk' (hor k' hkor) (hexo k' hkor) with ⟨_, hlt, hr⟩ | hm0
    · exact ⟨by simp [before, hlt], hdep k' hr⟩
    exfalso
    have hm := fun g' hg' => hm0 g' hg' ⟨id, 0, 0, true⟩ (by rw [hrd]; exact hg)
    cases hq : R.e k' with
    | nop => rw [hq] at ht; cases ht
    | new _ => rw [hq] at hc; simp [Eff.cnt] at hc
    | born _ _ _ => rw [hq] at hc; simp [Eff.cnt] at hc
    | put i off x => rw [hq] at ht hm; cases ht; have := hm _ (by simp [Eff.wr]; rfl); simp [Rg.meets] at this
    | grow i e' sz' x => rw [hq] at ht hm; cases ht; have := hm _ (by simp [Eff.wr]; rfl); simp [Rg.meets] at this
end
end Go.Proofs.YtoibbedpaaeclaaGreat
end
