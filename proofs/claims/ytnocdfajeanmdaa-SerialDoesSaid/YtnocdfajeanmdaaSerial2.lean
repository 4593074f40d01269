import Derived.Test.YtnocdfajeanmdaaSerial
namespace Go.Proofs.Ytnocdfajeanmdaa
open Go Go.RowKit Go.Proofs.YtnocdfajeanmdaaW.PrintWords Go.Proofs.YtnocdfajeanmdaaW.PrintLast Go.Proofs.YtnocdfajeanmdaaW.PrintMore
set_option linter.unusedVariables false
set_option linter.unusedSimpArgs false
attribute [local go_sem] ov_cell ov_frozen
theorem pw_frozen_below {w w1 : World} (h : Below w.heap.size w w1) {a : Addr} (hl : a.block < w.heap.size) (hf : w.frozen? a = false) : w1.frozen? a = false := (h.frozen hl).trans hf
theorem take_some (lo hi : Int) (h0 : 0 ≤ lo) (h1 : lo < hi) (h2 : hi ≤ 2305843009213693952) (w : World) :
    Calls Try.prog 17 #[.agg #[.int .u64 lo, .int .u64 hi]] w fun e w' => e = .returned (.tuple #[.int .u64 lo, .agg #[.int .u64 (lo + 1), .int .u64 hi], .int .i64 0]) ∧ Below w.heap.size w w' := by
  have hd : (hi - lo == 0) = false := by rw [beq_eq_false_iff_ne]; omega
  have h1' : lo ≤ hi := by omega
  go_enter Try.func17, Try.ntmps17
  go_wp2_with (go_at_call 41; refine (none_calls _ _ h0 h1' h2 _).mono ?_; rw [hd]; rintro e w1 ⟨rfl, hb1⟩; have c1 := pw_cell_below (v := .int .u64 lo) (a := ⟨w.heap.size + 1 + 1, 0, none⟩) hb1 (by go_simp); have c2 := pw_cell_below (v := .int .u64 hi) (a := ⟨w.heap.size + 1 + 1, 1, none⟩) hb1 (by go_simp))
  refine (cut_calls _ _ _ _).mono ?_
  rintro e w2 ⟨rfl, hb2⟩
  have c1' := pw_cell_below hb2 c1
  have c3 := pw_cell_below hb2 (pw_cell_below (v := .int .u64 0) (a := ⟨w.heap.size + 1, 0, none⟩) hb1 (by go_simp))
  have c4 := pw_cell_below hb2 (pw_cell_below (v := .int .u64 0) (a := ⟨w.heap.size + 1, 1, none⟩) hb1 (by go_simp))
  have hz : w.heap.size + 3 ≤ w1.heap.size := by have := hb1.size; simp at this; omega
  have hz2 : w.heap.size + 3 ≤ w2.heap.size := by have := hb2.size; omega
  have f3 := pw_frozen_below (a := ⟨w.heap.size + 1, 0, none⟩) hb2 (by simp; omega) (pw_frozen_below hb1 (by simp) (by go_simp))
  have f4 := pw_frozen_below (a := ⟨w.heap.size + 1, 1, none⟩) hb2 (by simp; omega) (pw_frozen_below hb1 (by simp) (by go_simp))
  have B : Below w.heap.size w w2 := ((((Below.refl _ _).alloc (Nat.le_refl _) _).alloc (by simp) _).alloc (by simp; omega) _).trans ((hb1.mono (by simp; omega)).trans (hb2.mono (by omega)))
  have n0 : w.heap.size < w2.heap.size := by omega
  have n1 : w.heap.size + 1 < w2.heap.size := by omega
  have n2 : w.heap.size + 1 + 1 < w2.heap.size := by omega
  clear hb1 hb2 c1
  go_wp2
  go_region
  all_goals go_wp2
  all_goals
    refine bodyPost_ret (v := .tuple #[.int .u64 lo, .agg #[.int .u64 (lo + 1), .int .u64 hi], .int .i64 0]) (by simp [results, Try.results17, go_sem, n0, n1, c3, c4]) rfl ⟨rfl, ?_⟩
    exact ((((B.setCell (p := ⟨w.heap.size + 1, 0, none⟩) (by simp) _).setCell (p := ⟨w.heap.size + 1, 1, none⟩) (by simp) _).alloc (by simp; omega) _).alloc (by simp; omega) _).drew
theorem take_none (lo : Int) (h0 : 0 ≤ lo) (h2 : lo ≤ 2305843009213693952) (w : World) :
    Calls Try.prog 17 #[.agg #[.int .u64 lo, .int .u64 lo]] w fun e w' => e = .returned (.tuple #[.int .u64 0, .agg #[.int .u64 lo, .int .u64 lo], .int .i64 7]) ∧ Below w.heap.size w w' := by
  have hd : (lo - lo == 0) = true := by simp
  go_enter Try.func17, Try.ntmps17
  go_wp2_with (go_at_call 41; refine (none_calls _ _ h0 (Int.le_refl _) h2 _).mono ?_; rw [hd]; rintro e w1 ⟨rfl, hb1⟩; have c1 := pw_cell_below (v := .int .u64 lo) (a := ⟨w.heap.size, 0, none⟩) hb1 (by go_simp); have c2 := pw_cell_below (v := .int .u64 lo) (a := ⟨w.heap.size, 1, none⟩) hb1 (by go_simp); have c3 := pw_cell_below (v := .int .u64 0) (a := ⟨w.heap.size + 1, 0, none⟩) hb1 (by go_simp); have c4 := pw_cell_below (v := .int .u64 0) (a := ⟨w.heap.size + 1, 1, none⟩) hb1 (by go_simp); have f3 := pw_frozen_below (a := ⟨w.heap.size + 1, 0, none⟩) hb1 (by simp) (by go_simp); have f4 := pw_frozen_below (a := ⟨w.heap.size + 1, 1, none⟩) hb1 (by simp) (by go_simp))
  have B : Below w.heap.size w w1 := ((((Below.refl _ _).alloc (Nat.le_refl _) _).alloc (by simp) _).alloc (by simp; omega) _).trans (hb1.mono (by simp; omega))
  clear hb1
  go_region
  all_goals go_wp2
  all_goals
    refine bodyPost_ret (v := .tuple #[.int .u64 0, .agg #[.int .u64 lo, .int .u64 lo], .int .i64 7]) (by simp [results, Try.results17, go_sem, c3, c4]) rfl ⟨rfl, ?_⟩
    exact (((B.setCell (p := ⟨w.heap.size + 1, 0, none⟩) (by simp) _).setCell (p := ⟨w.heap.size + 1, 1, none⟩) (by simp) _)).drew
theorem split_none (lo hi : Int) (h0 : 0 ≤ lo) (h1 : lo ≤ hi) (h2 : hi ≤ 2305843009213693952) (hs : hi - lo < 16) (w : World) :
    Calls Try.prog 27 #[.agg #[.int .u64 lo, .int .u64 hi]] w fun e w' => e = .returned (.tuple #[.agg #[.int .u64 lo, .int .u64 hi], .agg #[.int .u64 0, .int .u64 0], .int .i64 7]) ∧ Below w.heap.size w w' := by
  have hd : (((hi - lo) / 16) == 0) = true := by rw [beq_iff_eq]; omega
  have hp : 0 ≤ hi - lo := by omega
  go_enter Try.func27, Try.ntmps27
  go_wp2_with fail
  refine (left_calls _ _ h0 h1 h2 _).mono ?_
  rintro e w1 ⟨rfl, hb1⟩
  have a_ := blk_below (g := w.heap.size) (blk_alloc (blk_alloc (blk_alloc (blk_at (by simp)) _) _) _) hb1
  have aC0 := blk_cell a_ 0
  have aF0 := blk_frozen a_ 0
  have aC1 := blk_cell a_ 1
  have aF1 := blk_frozen a_ 1
  simp only [List.getElem?_toArray, List.getElem?_cons_zero, List.getElem?_cons_succ] at aC0 aC1
  have a := Lib.hid a_
  clear a_
  have b_ := blk_below (g := w.heap.size + 1) (blk_alloc (blk_alloc (blk_at (by simp)) _) _) hb1
  have bC0 := blk_cell b_ 0
  have bF0 := blk_frozen b_ 0
  have bC1 := blk_cell b_ 1
  have bF1 := blk_frozen b_ 1
  simp only [List.getElem?_toArray, List.getElem?_cons_zero, List.getElem?_cons_succ] at bC0 bC1
  have b := Lib.hid b_
  clear b_
  have c_ := blk_below (g := w.heap.size + 1 + 1) (blk_alloc (blk_at (by simp)) _) hb1
  have cC0 := blk_cell c_ 0
  have cF0 := blk_frozen c_ 0
  have cC1 := blk_cell c_ 1
  have cF1 := blk_frozen c_ 1
  simp only [List.getElem?_toArray, List.getElem?_cons_zero, List.getElem?_cons_succ] at cC0 cC1
  have c := Lib.hid c_
  clear c_
  have B : Below w.heap.size w w1 := (((((Below.refl _ _).alloc (Nat.le_refl _) _).alloc (by simp) _).alloc (by simp; omega) _).alloc (by simp; omega) _).trans (hb1.mono (by simp; omega))
  clear hb1
  go_wp2_with fail
  refine bodyPost_ret (v := .tuple #[.agg #[.int .u64 lo, .int .u64 hi], .agg #[.int .u64 0, .int .u64 0], .int .i64 7]) (by simp [results, Try.results27, go_sem, bC0, bC1, cC0, cC1]) rfl ⟨rfl, (by repeat (first | with_reducible (exact B) | with_reducible (apply below_alloc) | with_reducible (apply below_drew1) | with_reducible (apply pw_below_drewN) | (with_reducible (refine bel_set ?_ ?_ _ _); rotate_left; omega)))⟩
set_option maxHeartbeats 1000000 in
theorem split_some (lo hi : Int) (h0 : 0 ≤ lo) (h1 : lo ≤ hi) (h2 : hi ≤ 2305843009213693952) (hs : 16 ≤ hi - lo) (w : World) :
    Calls Try.prog 27 #[.agg #[.int .u64 lo, .int .u64 hi]] w fun e w' => e = .returned (.tuple #[.agg #[.int .u64 lo, .int .u64 (hi - (hi - lo) / 16)], .agg #[.int .u64 (hi - (hi - lo) / 16), .int .u64 hi], .int .i64 0]) ∧ Below w.heap.size w w' := by
  obtain ⟨p, hp⟩ : ∃ p, (hi - lo) / 16 = p := ⟨_, rfl⟩
  have hp0 : 1 ≤ p := by omega
  have hp1 : p ≤ hi := by omega
  have hd : (p == 0) = false := by rw [beq_eq_false_iff_ne]; omega
  have hl : 0 ≤ hi - lo := by omega
  rw [hp]
  go_enter Try.func27, Try.ntmps27
  go_wp2_with fail
  refine (left_calls _ _ h0 h1 h2 _).mono ?_
  rintro e w1 ⟨rfl, hb1⟩
  have a_ := blk_below (g := w.heap.size) (blk_alloc (blk_alloc (blk_alloc (blk_at (by simp)) _) _) _) hb1
  have aC0 := blk_cell a_ 0
  have aF0 := blk_frozen a_ 0
  have aC1 := blk_cell a_ 1
  have aF1 := blk_frozen a_ 1
  simp only [List.getElem?_toArray, List.getElem?_cons_zero, List.getElem?_cons_succ] at aC0 aC1
  have a := Lib.hid a_
  clear a_
  have b_ := blk_below (g := w.heap.size + 1) (blk_alloc (blk_alloc (blk_at (by simp)) _) _) hb1
  have bC0 := blk_cell b_ 0
  have bF0 := blk_frozen b_ 0
  have bC1 := blk_cell b_ 1
  have bF1 := blk_frozen b_ 1
  simp only [List.getElem?_toArray, List.getElem?_cons_zero, List.getElem?_cons_succ] at bC0 bC1
  have b := Lib.hid b_
  clear b_
  have c_ := blk_below (g := w.heap.size + 1 + 1) (blk_alloc (blk_at (by simp)) _) hb1
  have cC0 := blk_cell c_ 0
  have cF0 := blk_frozen c_ 0
  have cC1 := blk_cell c_ 1
  have cF1 := blk_frozen c_ 1
  simp only [List.getElem?_toArray, List.getElem?_cons_zero, List.getElem?_cons_succ] at cC0 cC1
  have c := Lib.hid c_
  clear c_
  have d_ := blk_below (g := w.heap.size + 1 + 1 + 1) (blk_at (by simp)) hb1
  have dC0 := blk_cell d_ 0
  have dF0 := blk_frozen d_ 0
  have dC1 := blk_cell d_ 1
  have dF1 := blk_frozen d_ 1
  simp only [List.getElem?_toArray, List.getElem?_cons_zero, List.getElem?_cons_succ] at dC0 dC1
  have d := Lib.hid d_
  clear d_
  have B : Below w.heap.size w w1 := (((((Below.refl _ _).alloc (Nat.le_refl _) _).alloc (by simp) _).alloc (by simp; omega) _).alloc (by simp; omega) _).trans (hb1.mono (by simp; omega))
  have hz : w.heap.size + 4 ≤ w1.heap.size := by have := hb1.size; simp at this; omega
  clear hb1
  go_wp2_with fail
  refine (cut_calls _ _ _ _).mono ?_
  rintro e w2 ⟨rfl, hb2⟩
  have b2_ := blk_below b.out hb2
  have b2C0 := blk_cell b2_ 0
  have b2F0 := blk_frozen b2_ 0
  have b2C1 := blk_cell b2_ 1
  have b2F1 := blk_frozen b2_ 1
  simp only [List.getElem?_toArray, List.getElem?_cons_zero, List.getElem?_cons_succ] at b2C0 b2C1
  have b2 := Lib.hid b2_
  clear b2_
  have c2_ := blk_below c.out hb2
  have c2C0 := blk_cell c2_ 0
  have c2F0 := blk_frozen c2_ 0
  have c2C1 := blk_cell c2_ 1
  have c2F1 := blk_frozen c2_ 1
  simp only [List.getElem?_toArray, List.getElem?_cons_zero, List.getElem?_cons_succ] at c2C0 c2C1
  have c2 := Lib.hid c2_
  clear c2_
  have B2 : Below w.heap.size w w2 := B.trans (hb2.mono (by omega))
  have hz2 : w.heap.size + 4 ≤ w2.heap.size := by have := hb2.size; omega
  have n0 : w.heap.size < w2.heap.size := by omega
  have n1 : w.heap.size + 1 < w2.heap.size := by omega
  have n2 : w.heap.size + 1 + 1 < w2.heap.size := by omega
  clear hb2 a b c d aC0 aC1 aF0 aF1 bC0 bC1 bF0 bF1 cC0 cC1 cF0 cF1 dC0 dC1 dF0 dF1
  go_wp2_with fail
  go_region
  all_goals go_wp2
  all_goals
    refine bodyPost_ret (v := .tuple #[.agg #[.int .u64 lo, .int .u64 (hi - p)], .agg #[.int .u64 (hi - p), .int .u64 hi], .int .i64 0]) (by simp [results, Try.results27, go_sem, n0, n1, n2, b2C0, b2C1, c2C0, c2C1]) rfl ⟨rfl, (by repeat (first | with_reducible (exact B2) | with_reducible (apply below_alloc) | with_reducible (apply below_drew1) | with_reducible (apply pw_below_drewN) | (with_reducible (refine bel_set ?_ ?_ _ _); rotate_left; omega)))⟩
/-- Whether a name is still to be given of numbers. -/
def hasB (key : BitVec 64) (lo hi : Int) (name : BitVec 64) : Bool :=
  (decide (0 < V name) && decide (V name ≤ 2305843009213693952)) && (decide (lo ≤ V (numberB key name)) && decide (V (numberB key name) < hi))
theorem has_name (key name : BitVec 64) (lo hi : Int) (h0 : 0 ≤ lo) (h1 : lo ≤ hi) (h2 : hi ≤ 2305843009213693952) (w : World) :
    Calls Try.prog 28 #[.int .u64 (V key), .agg #[.int .u64 lo, .int .u64 hi], .int .u64 (V name)] w fun e w' => e = .returned (.bool (hasB key lo hi name)) ∧ Below w.heap.size w w' := by
  have hv := V_lt (numberB key name)
  have hvn := V_lt name
  by_cases hn : 0 < V name
  · have d1 : decide (0 < V name) = true := decide_eq_true hn
    by_cases hm : V name ≤ 2305843009213693952
    · have d2 : decide (V name ≤ 2305843009213693952) = true := decide_eq_true hm
      rw [show hasB key lo hi name = (decide (lo ≤ V (numberB key name)) && decide (V (numberB key name) < hi)) from by unfold hasB; rw [d1, d2]; rfl]
      go_enter Try.func28, Try.ntmps28
      go_wp2_with fail
      refine wp_region_ov (by kernel_rfl) (by kernel_rfl) ?_
      repeat (go_big_quiet_step (first | (go_at_call 20; exact Calls_ov (number_is _ _ _)) | (go_at_call 46; exact Calls_ov (has_calls _ _ _ h0 h1 h2 hv.1 hv.2 _))))
      refine wpQuiet_nil ?_
      intro w' hb
      go_wp2
      go_ret
      exact ⟨rfl, ((Below.refl _ _).alloc (Nat.le_refl _) _).trans (hb.mono (by simp))⟩
    · have d2 : decide (V name ≤ 2305843009213693952) = false := decide_eq_false hm
      rw [show hasB key lo hi name = false from by unfold hasB; rw [d1, d2]; rfl]
      go_enter Try.func28, Try.ntmps28
      go_wp2_with fail
      refine wp_region_ov (by kernel_rfl) (by kernel_rfl) ?_
      repeat (go_big_quiet_step (fail))
      refine wpQuiet_nil ?_
      intro w' hb
      go_wp2
      go_ret
      exact ⟨rfl, ((Below.refl _ _).alloc (Nat.le_refl _) _).trans (hb.mono (by simp))⟩
  · have d1 : decide (0 < V name) = false := decide_eq_false hn
    rw [show hasB key lo hi name = false from by unfold hasB; rw [d1]; rfl]
    go_enter Try.func28, Try.ntmps28
    go_wp2_with fail
    refine wp_region_ov (by kernel_rfl) (by kernel_rfl) ?_
    repeat (go_big_quiet_step (fail))
    refine wpQuiet_nil ?_
    intro w' hb
    go_wp2
    go_ret
    exact ⟨rfl, ((Below.refl _ _).alloc (Nat.le_refl _) _).trans (hb.mono (by simp))⟩
/-! The references. -/
theorem reffit_calls (lo hi : Int) (w : World) :
    Calls Try.prog 15 #[.agg #[.int .u64 lo, .int .u64 hi]] w fun e w' => e = .returned (.bool (decide (lo ≤ hi) && decide (hi ≤ 2305843009213693952))) ∧ Below w.heap.size w w' := by
  by_cases h : lo ≤ hi
  · have hd := decide_eq_true h
    go_enter Try.func15, Try.ntmps15
    go_wp2
    go_ret
    exact ⟨by simp [h], (Below.refl _ _).alloc (Nat.le_refl _) _⟩
  · have hd := decide_eq_false h
    go_enter Try.func15, Try.ntmps15
    go_wp2
    go_ret
    exact ⟨by simp [h], (Below.refl _ _).alloc (Nat.le_refl _) _⟩
end Go.Proofs.Ytnocdfajeanmdaa
