import Derived.Test.YtnocdfajeanmdaaSerial4
namespace Go.Proofs.Ytnocdfajeanmdaa
open Go Go.RowKit Go.Proofs.YtnocdfajeanmdaaW.PrintWords Go.Proofs.YtnocdfajeanmdaaW.PrintLast Go.Proofs.YtnocdfajeanmdaaW.PrintMore
set_option linter.unusedVariables false
set_option linter.unusedSimpArgs false
attribute [local go_sem] ov_cell ov_frozen
theorem serial_awake (w : World) : Calls Try.prog 16 #[] w fun e w' => e = .returned (.bool true) ∧ Below w.heap.size w w' := by
  have ht := fun w => take_some 3 5 (by decide) (by decide) (by decide) w
  have hs := fun w => split_some 0 32 (by decide) (by decide) (by decide) (by decide) w
  simp only [show (3 : Int) + 1 = 4 from rfl, show (32 : Int) - (32 - 0) / 16 = 30 from by decide] at ht hs
  have HT := Lib.hid ht
  have HS := Lib.hid hs
  clear ht hs
  go_enter Try.func16, Try.ntmps16
  go_wp2_with fail
  refine (HT.out _).mono ?_
  rintro e w1 ⟨rfl, hb1⟩
  go_wp2_with fail
  refine (HS.out _).mono ?_
  rintro e w2 ⟨rfl, hb2⟩
  have x_ := blk_below (g := w1.heap.size) (blk_at (by simp)) hb2
  have xC0 := blk_cell x_ 0
  have xF0 := blk_frozen x_ 0
  have xC1 := blk_cell x_ 1
  have xF1 := blk_frozen x_ 1
  simp only [List.getElem?_toArray, List.getElem?_cons_zero, List.getElem?_cons_succ] at xC0 xC1
  have x := Lib.hid x_
  clear x_
  have B : Below w.heap.size w w2 := (below_alloc hb1 _).trans (hb2.mono (by have := hb1.size; simp; omega))
  have hz2 : w1.heap.size < w2.heap.size := by have := hb2.size; simp at this; omega
  clear hb2
  go_wp2_with fail
  go_ret
  exact ⟨rfl, (by repeat (first | with_reducible (exact B) | with_reducible (apply below_alloc) | with_reducible (apply below_drew1) | with_reducible (apply pw_below_drewN) | (with_reducible (refine bel_set ?_ ?_ _ _); rotate_left; omega)))⟩
set_option maxRecDepth 100000 in
set_option maxHeartbeats 2000000 in
theorem serialRow_walk (lo hi n : Int) (hlo : 0 ≤ lo) (hhi : hi < 18446744073709551616) (hn0 : 0 ≤ n) (hn : n < 256) (w : World) :
    Calls Try.prog 3 #[.agg #[.int .u64 lo, .int .u64 hi], .int .u8 n] w fun e w' => e = .returned (.bool true) ∧ Below w.heap.size w w' := by
  by_cases hf : (decide (lo ≤ hi) && decide (hi ≤ 2305843009213693952)) = true
  · have hlh : lo ≤ hi := by simp at hf; omega
    have hh2 : hi ≤ 2305843009213693952 := by simp at hf; omega
    go_enter Try.func3, Try.ntmps3
    go_wp2_with fail
    refine (reffit_calls _ _ _).mono ?_
    rw [hf]
    rintro e w1 ⟨rfl, hb1⟩
    have s_ := blk_below (g := w.heap.size) (blk_at (by simp)) hb1
    have sC0 := blk_cell s_ 0
    have sF0 := blk_frozen s_ 0
    have sC1 := blk_cell s_ 1
    have sF1 := blk_frozen s_ 1
    simp only [List.getElem?_toArray, List.getElem?_cons_zero, List.getElem?_cons_succ] at sC0 sC1
    have s := Lib.hid s_
    clear s_
    have B : Below w.heap.size w w1 := ((Below.refl _ _).alloc (Nat.le_refl _) _).trans (hb1.mono (by simp))
    obtain ⟨n, rfl⟩ := Int.eq_ofNat_of_zero_le hn0
    have S := Lib.hid s.out
    have h00 : 0 < w.heap.size + 1 := by omega
    have sz1 : w.heap.size + 1 ≤ w1.heap.size := by have := hb1.size; simpa using this
    clear hb1 hf s
    go_wp2_with fail
    clear sF0 sF1 sC0 sC1
    go_loopw [21] (fun i wr => ∃ k : Nat, k ≤ n ∧ lo + k ≤ hi ∧ i = .int .u64 k ∧ wr.heap[w.heap.size]? = some (.cells #[.int .u64 (lo + k), .int .u64 hi] 24 (0, 0)) ∧ Below w.heap.size w wr) (fun i wr => n - (intOf i).toNat)
    case atStart => exact ⟨0, by omega, by omega, rfl, by rw [S.out]; simp, B⟩
    case round =>
      obtain ⟨k, hk, hkh, rfl, hblk, hB⟩ := hrel
      have hwz := blk_lt hblk
      have s_ := hblk
      have sC0 := blk_cell s_ 0
      have sF0 := blk_frozen s_ 0
      have sC1 := blk_cell s_ 1
      have sF1 := blk_frozen s_ 1
      simp only [List.getElem?_toArray, List.getElem?_cons_zero, List.getElem?_cons_succ] at sC0 sC1
      have s := Lib.hid s_
      clear s_
      clear hblk B S
      by_cases hkn : k < n
      · by_cases hkl : lo + k < hi
        · have hge : decide ((k : Int) ≥ hi - lo) = false := decide_eq_false (by omega)
          go_wp2_with fail
          refine (take_some _ _ (by omega) hkl hh2 _).mono ?_
          rintro e w2 ⟨rfl, hb2⟩
          have p_ := blk_below s.out hb2
          have pC0 := blk_cell p_ 0
          have pF0 := blk_frozen p_ 0
          have pC1 := blk_cell p_ 1
          have pF1 := blk_frozen p_ 1
          simp only [List.getElem?_toArray, List.getElem?_cons_zero, List.getElem?_cons_succ] at pC0 pC1
          have p := Lib.hid p_
          clear p_
          have B2 : Below w.heap.size w w2 := hB.trans (hb2.mono hB.size)
          have hz2 : w.heap.size < w2.heap.size := by have := hb2.size; omega
          clear hb2 s sC0 sC1 sF0 sF1
          go_wp2_with fail
          refine ⟨⟨k + 1, by omega, by omega, by go_num, ?_, (by repeat (first | with_reducible (exact B2) | with_reducible (apply below_alloc) | with_reducible (apply below_drew1) | with_reducible (apply pw_below_drewN) | (with_reducible (refine bel_set ?_ ?_ _ _); rotate_left; omega)))⟩, by simp [intOf]; omega⟩
          rw [show (lo + ((k + 1 : Nat) : Int)) = lo + k + 1 from by omega]
          exact blk_alloc (blk_set (blk_set p.out 0 _) 1 _) _
        · obtain rfl : hi = lo + k := by omega
          have hge : decide ((k : Int) ≥ lo + k - lo) = true := decide_eq_true (by omega)
          go_wp2_with fail
          refine (take_none _ (by omega) hh2 _).mono ?_
          rintro e w2 ⟨rfl, hb2⟩
          have p_ := blk_below s.out hb2
          have pC0 := blk_cell p_ 0
          have pF0 := blk_frozen p_ 0
          have pC1 := blk_cell p_ 1
          have pF1 := blk_frozen p_ 1
          simp only [List.getElem?_toArray, List.getElem?_cons_zero, List.getElem?_cons_succ] at pC0 pC1
          have p := Lib.hid p_
          clear p_
          have B2 : Below w.heap.size w w2 := hB.trans (hb2.mono hB.size)
          have hz2 : w.heap.size < w2.heap.size := by have := hb2.size; omega
          clear hb2 s sC0 sC1 sF0 sF1
          go_wp2_with fail
          refine (serial_awake _).mono ?_
          rintro e w3 ⟨rfl, hb3⟩
          go_wp2_with fail
          go_ret
          exact ⟨rfl, (below_alloc B2 _).trans (hb3.mono (by have := B2.size; simp; omega))⟩
      · obtain rfl : k = n := by omega
        have heq : (hi - (lo + (k : Int)) == hi - lo - (k : Int)) = true := by rw [beq_iff_eq]; omega
        have hp1 : 0 ≤ hi - lo - (k : Int) := by omega
        go_wp2_with fail
        refine (serial_awake _).mono ?_
        rintro e w3 ⟨rfl, hb3⟩
        go_wp2_with fail
        go_ret
        exact ⟨rfl, hB.trans (hb3.mono hB.size)⟩
  · go_enter Try.func3, Try.ntmps3
    go_wp2_with fail
    refine (reffit_calls _ _ _).mono ?_
    rw [Bool.not_eq_true] at hf
    rw [hf]
    rintro e w1 ⟨rfl, hb1⟩
    go_wp2_with fail
    refine (serial_awake _).mono ?_
    rintro e w2 ⟨rfl, hb2⟩
    go_wp2_with fail
    go_ret
    have B : Below w.heap.size w w1 := ((Below.refl _ _).alloc (Nat.le_refl _) _).trans (hb1.mono (by simp))
    exact ⟨rfl, B.trans (hb2.mono B.size)⟩
end Go.Proofs.Ytnocdfajeanmdaa
