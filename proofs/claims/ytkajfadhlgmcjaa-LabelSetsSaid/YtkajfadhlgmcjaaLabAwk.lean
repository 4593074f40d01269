import Derived.Test.YtkajfadhlgmcjaaLabAll
section
namespace Go.Proofs.Ytkajfadhlgmcjaa
open Go Go.RowKit Go.Shelf Go.Proofs.YtkajfadhlgmcjaaW.PrintWords Go.Proofs.YtkajfadhlgmcjaaW.PrintLast Go.Proofs.YtkajfadhlgmcjaaW.PrintMore
set_option linter.unusedVariables false
set_option linter.unusedSimpArgs false
theorem C_one {w : World} {g : Nat} {t : TypeId} {c v : Int} (h : w.heap[g]? = some (.cells #[.int .u64 c, .int .i64 v] t (0, 0))) : kPr.C w (some ⟨g, 0, none⟩) ([(c, v)] : Lab).length [(c, v)] := by
  refine ⟨rfl, by simp, fun _ => ⟨_, rfl, fun j p hp => ?_⟩⟩
  cases j with
  | zero =>
    simp at hp; subst hp
    refine ⟨[.int .u64 c, .int .i64 v], rfl, kPr_mk w (c, v), fun i u hu => ?_⟩
    have h0 := blk_cell h 0
    have h1 := blk_cell h 1
    simp only [List.getElem?_toArray, List.getElem?_cons_zero, List.getElem?_cons_succ] at h0 h1
    match i, hu with
    | 0, hu => simp at hu; subst hu; simpa [Addr.add] using h0
    | 1, hu => simp at hu; subst hu; simpa [Addr.add, kPr, Kd.pair, Kd.int, Kd.scalar] using h1
    | i + 2, hu => simp at hu
  | succ j => simp at hp
theorem sorted_one (p : Int × Int) : Sorted [p] := fun i j hi hj h => by simp at hi hj; omega
theorem sorted_nil : Sorted [] := fun i j hi hj h => by simp at hi
theorem aw1 : leqB [(7, 4)] [] = false := by simp [leqB, mergeB, ofL]
theorem aw2 : leqB [(7, 0)] [] = true := by simp [leqB, mergeB, ofL]
theorem aw3 : foldB (fun a _ => raL a) [(7, 0)] [] = [(7, 5)] := by simp [foldB, foldX, mergeB, raL, ofL]
set_option maxRecDepth 100000 in
set_option maxHeartbeats 1000000 in
theorem awake_calls (w : World) : Calls Try.prog 17 #[] w fun e w' => e = .returned (.bool true) ∧ Below w.heap.size w w' := by
  go_enter Try.func17, Try.ntmps17
  go_wp2_with (first
    | (go_at_call 23; refine (raise_calls [(7, 0)] (some ⟨w.heap.size + 1, 0, none⟩) 1 _ (C_one (t := 46) (blk_at (by simp))) (Nat.le_refl _) (by simp)).mono ?_; rintro e w1 ⟨v, rfl, hr, hb⟩; rw [aw3] at hr; obtain ⟨Au, cu, rfl, hcu, hu⟩ := Kd.R_reads hr; obtain ⟨ad, rfl, u0, u1⟩ := lab_head hu; have hB := Lib.hid (below_step (((Below.refl w.heap.size w).alloc (Nat.le_refl _) (.cells #[.int .u64 7, .int .i64 4] 46)).alloc (by simp) (.cells #[.int .u64 7, .int .i64 0] 46)) hb); have s1 := Lib.hid (C_one (t := 46) (blk_below (blk_alloc (blk_new w (.cells #[.int .u64 7, .int .i64 4] 46)) (.cells #[.int .u64 7, .int .i64 0] 46)) hb)); have s2 := Lib.hid (C_one (t := 46) (blk_below (g := w.heap.size + 1) (blk_at (w := w.alloc (.cells #[.int .u64 7, .int .i64 4] 46)) (o := .cells #[.int .u64 7, .int .i64 0] 46) (by simp)) hb)); clear hr hu hb hcu)
    | (go_at_call 22; refine (get_calls [] none 0 7 _ (C_nil0 _) (Nat.le_refl _) sorted_nil (by simp)).mono ?_; rintro e w2 ⟨rfl, hb2⟩; have u1 := pw_cell_below hb2 u1; have hB := Lib.hid (below_step hB.out hb2); have s1 := Lib.hid (Kd.C_below s1.out hb2); have s2 := Lib.hid (Kd.C_below s2.out hb2); clear hb2)
    | (go_at_call 18; with_reducible refine Calls.mono (leq_calls [(7, 4)] [] (some ⟨w.heap.size, 0, none⟩) none 1 0 _ s1.out (C_nil0 _) (Nat.le_refl _) (Nat.le_refl _) (by simp)) ?_; rw [aw1]; rintro e w2 ⟨rfl, hb2⟩; have u1 := pw_cell_below hb2 u1; have hB := Lib.hid (below_step hB.out hb2); have s2 := Lib.hid (Kd.C_below s2.out hb2); clear hb2)
    | (go_at_call 18; with_reducible refine Calls.mono (leq_calls [(7, 0)] [] (some ⟨w.heap.size + 1, 0, none⟩) none 1 0 _ s2.out (C_nil0 _) (Nat.le_refl _) (Nat.le_refl _) (by simp)) ?_; rw [aw2]; rintro e w2 ⟨rfl, hb2⟩; have u1 := pw_cell_below hb2 u1; have hB := Lib.hid (below_step hB.out hb2); clear hb2))
  go_ret
  exact ⟨rfl, hB.out⟩
end Go.Proofs.Ytkajfadhlgmcjaa
end
