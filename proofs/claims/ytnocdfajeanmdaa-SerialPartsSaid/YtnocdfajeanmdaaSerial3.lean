import Derived.Test.YtnocdfajeanmdaaSerial2
namespace Go.Proofs.Ytnocdfajeanmdaa
open Go Go.RowKit Go.Proofs.YtnocdfajeanmdaaW.PrintWords Go.Proofs.YtnocdfajeanmdaaW.PrintLast Go.Proofs.YtnocdfajeanmdaaW.PrintMore
set_option linter.unusedVariables false
set_option linter.unusedSimpArgs false
attribute [local go_sem] ov_cell ov_frozen
theorem none_b {lo hi : Int} {b : Bool} (hb : (hi - lo == 0) = b) (h0 : 0 ≤ lo) (h1 : lo ≤ hi) (h2 : hi ≤ 2305843009213693952) (w : World) :
    Calls Try.prog 41 #[.agg #[.int .u64 lo, .int .u64 hi], .func (.func 42) #[] #[]] w fun e w' => e = .returned (.bool b) ∧ Below w.heap.size w w' := by
  subst hb; exact none_calls lo hi h0 h1 h2 w
theorem has_b {lo hi n : Int} {b : Bool} (hb : (decide (lo ≤ n) && decide (n < hi)) = b) (h0 : 0 ≤ lo) (h1 : lo ≤ hi) (h2 : hi ≤ 2305843009213693952) (hn0 : 0 ≤ n) (hn1 : n < 18446744073709551616) (w : World) :
    Calls Try.prog 46 #[.agg #[.int .u64 lo, .int .u64 hi], .int .u64 n] w fun e w' => e = .returned (.bool b) ∧ Below w.heap.size w w' := by
  subst hb; exact has_calls lo hi n h0 h1 h2 hn0 hn1 w
/-- Whether two have no number in common. -/
def apartB (a b c d : Int) : Bool := decide (a = b) || (decide (c = d) || (decide (b ≤ c) || decide (d ≤ a)))
set_option maxHeartbeats 2000000 in
theorem apart_calls (a b c d : Int) (a0 : 0 ≤ a) (a1 : a ≤ b) (a2 : b ≤ 2305843009213693952) (c0 : 0 ≤ c) (c1 : c ≤ d) (c2 : d ≤ 2305843009213693952) (w : World) :
    Calls Try.prog 39 #[.agg #[.int .u64 a, .int .u64 b], .agg #[.int .u64 c, .int .u64 d]] w fun e w' => e = .returned (.bool (apartB a b c d)) ∧ Below w.heap.size w w' := by
  obtain ⟨x1, h1⟩ : ∃ x, (b - a == 0) = x := ⟨_, rfl⟩
  obtain ⟨x2, h2⟩ : ∃ x, (d - c == 0) = x := ⟨_, rfl⟩
  obtain ⟨x3, h3⟩ : ∃ x, (decide (a ≤ c) && decide (c < b)) = x := ⟨_, rfl⟩
  obtain ⟨x4, h4⟩ : ∃ x, (decide (c ≤ a) && decide (a < d)) = x := ⟨_, rfl⟩
  have hr : apartB a b c d = (x1 || (x2 || (!x3 && !x4))) := by
    subst h1; subst h2; subst h3; subst h4
    unfold apartB
    rw [Bool.eq_iff_iff]
    simp
    omega
  have H1 := Lib.hid h1
  have H2 := Lib.hid h2
  have H3 := Lib.hid h3
  have H4 := Lib.hid h4
  clear h1 h2 h3 h4
  have ha : a < 18446744073709551616 := by omega
  have hc : c < 18446744073709551616 := by omega
  rw [hr]
  clear hr
  go_enter Try.func39, Try.ntmps39
  go_wp2_with fail
  go_region
  · -- x at + 1 + 1
    go_wp2_with fail
    refine (none_b H1.out a0 a1 a2 _).mono ?_
    rintro e w1 ⟨rfl, hb1⟩
    have x_ := blk_below (g := w.heap.size + 1 + 1) (blk_drew (blk_alloc (blk_at (by simp)) _)) hb1
    have xC0 := blk_cell x_ 0
    have xF0 := blk_frozen x_ 0
    have xC1 := blk_cell x_ 1
    have xF1 := blk_frozen x_ 1
    simp only [List.getElem?_toArray, List.getElem?_cons_zero, List.getElem?_cons_succ] at xC0 xC1
    have x := Lib.hid x_
    clear x_
    have y_ := blk_below (g := w.heap.size + 1 + 1 + 1) (blk_drew (blk_at (by simp))) hb1
    have yC0 := blk_cell y_ 0
    have yF0 := blk_frozen y_ 0
    have yC1 := blk_cell y_ 1
    have yF1 := blk_frozen y_ 1
    simp only [List.getElem?_toArray, List.getElem?_cons_zero, List.getElem?_cons_succ] at yC0 yC1
    have y := Lib.hid y_
    clear y_
    have B : Below w.heap.size w w1 := (((((Below.refl _ _).alloc (Nat.le_refl _) _).alloc (by simp) _).alloc (by simp; omega) _).alloc (by simp; omega) _).drew.trans (hb1.mono (by simp; omega))
    have hz : w.heap.size ≤ w1.heap.size := B.size
    clear hb1
    cases x1 with
    | true =>
      go_wp2_with fail
      go_ret
      exact ⟨rfl, B⟩
    | false =>
      go_wp2_with fail
      refine (none_b H2.out c0 c1 c2 _).mono ?_
      rintro e w2 ⟨rfl, hb2⟩
      have p2_ := blk_below x.out hb2
      have p2C0 := blk_cell p2_ 0
      have p2F0 := blk_frozen p2_ 0
      have p2C1 := blk_cell p2_ 1
      have p2F1 := blk_frozen p2_ 1
      simp only [List.getElem?_toArray, List.getElem?_cons_zero, List.getElem?_cons_succ] at p2C0 p2C1
      have p2 := Lib.hid p2_
      clear p2_
      have q2_ := blk_below y.out hb2
      have q2C0 := blk_cell q2_ 0
      have q2F0 := blk_frozen q2_ 0
      have q2C1 := blk_cell q2_ 1
      have q2F1 := blk_frozen q2_ 1
      simp only [List.getElem?_toArray, List.getElem?_cons_zero, List.getElem?_cons_succ] at q2C0 q2C1
      have q2 := Lib.hid q2_
      clear q2_
      have B2 : Below w.heap.size w w2 := B.trans (hb2.mono hz)
      have hz2 : w.heap.size ≤ w2.heap.size := B2.size
      clear hb2 x y xC0 xC1 xF0 xF1 yC0 yC1 yF0 yF1
      cases x2 with
      | true =>
        go_wp2_with fail
        go_ret
        exact ⟨rfl, B2⟩
      | false =>
        go_wp2_with fail
        refine (has_b H3.out a0 a1 a2 c0 hc _).mono ?_
        rintro e w3 ⟨rfl, hb3⟩
        have p3_ := blk_below p2.out hb3
        have p3C0 := blk_cell p3_ 0
        have p3F0 := blk_frozen p3_ 0
        have p3C1 := blk_cell p3_ 1
        have p3F1 := blk_frozen p3_ 1
        simp only [List.getElem?_toArray, List.getElem?_cons_zero, List.getElem?_cons_succ] at p3C0 p3C1
        have p3 := Lib.hid p3_
        clear p3_
        have q3_ := blk_below q2.out hb3
        have q3C0 := blk_cell q3_ 0
        have q3F0 := blk_frozen q3_ 0
        have q3C1 := blk_cell q3_ 1
        have q3F1 := blk_frozen q3_ 1
        simp only [List.getElem?_toArray, List.getElem?_cons_zero, List.getElem?_cons_succ] at q3C0 q3C1
        have q3 := Lib.hid q3_
        clear q3_
        have B3 : Below w.heap.size w w3 := B2.trans (hb3.mono hz2)
        have hz3 : w.heap.size ≤ w3.heap.size := B3.size
        clear hb3 p2 q2 p2C0 p2C1 p2F0 p2F1 q2C0 q2C1 q2F0 q2F1
        cases x3 with
        | true =>
          go_wp2_with fail
          go_ret
          exact ⟨rfl, B3⟩
        | false =>
          go_wp2_with fail
          refine (has_b H4.out c0 c1 c2 a0 ha _).mono ?_
          rintro e w4 ⟨rfl, hb4⟩
          go_wp2_with fail
          go_ret
          exact ⟨by cases x4 <;> rfl, B3.trans (hb4.mono hz3)⟩
  · -- x at + 1 + 1 + 1
    go_wp2_with fail
    refine (none_b H1.out a0 a1 a2 _).mono ?_
    rintro e w1 ⟨rfl, hb1⟩
    have x_ := blk_below (g := w.heap.size + 1 + 1 + 1) (blk_drew (blk_at (by simp))) hb1
    have xC0 := blk_cell x_ 0
    have xF0 := blk_frozen x_ 0
    have xC1 := blk_cell x_ 1
    have xF1 := blk_frozen x_ 1
    simp only [List.getElem?_toArray, List.getElem?_cons_zero, List.getElem?_cons_succ] at xC0 xC1
    have x := Lib.hid x_
    clear x_
    have y_ := blk_below (g := w.heap.size + 1 + 1) (blk_drew (blk_alloc (blk_at (by simp)) _)) hb1
    have yC0 := blk_cell y_ 0
    have yF0 := blk_frozen y_ 0
    have yC1 := blk_cell y_ 1
    have yF1 := blk_frozen y_ 1
    simp only [List.getElem?_toArray, List.getElem?_cons_zero, List.getElem?_cons_succ] at yC0 yC1
    have y := Lib.hid y_
    clear y_
    have B : Below w.heap.size w w1 := (((((Below.refl _ _).alloc (Nat.le_refl _) _).alloc (by simp) _).alloc (by simp; omega) _).alloc (by simp; omega) _).drew.trans (hb1.mono (by simp; omega))
    have hz : w.heap.size ≤ w1.heap.size := B.size
    clear hb1
    cases x1 with
    | true =>
      go_wp2_with fail
      go_ret
      exact ⟨rfl, B⟩
    | false =>
      go_wp2_with fail
      refine (none_b H2.out c0 c1 c2 _).mono ?_
      rintro e w2 ⟨rfl, hb2⟩
      have p2_ := blk_below x.out hb2
      have p2C0 := blk_cell p2_ 0
      have p2F0 := blk_frozen p2_ 0
      have p2C1 := blk_cell p2_ 1
      have p2F1 := blk_frozen p2_ 1
      simp only [List.getElem?_toArray, List.getElem?_cons_zero, List.getElem?_cons_succ] at p2C0 p2C1
      have p2 := Lib.hid p2_
      clear p2_
      have q2_ := blk_below y.out hb2
      have q2C0 := blk_cell q2_ 0
      have q2F0 := blk_frozen q2_ 0
      have q2C1 := blk_cell q2_ 1
      have q2F1 := blk_frozen q2_ 1
      simp only [List.getElem?_toArray, List.getElem?_cons_zero, List.getElem?_cons_succ] at q2C0 q2C1
      have q2 := Lib.hid q2_
      clear q2_
      have B2 : Below w.heap.size w w2 := B.trans (hb2.mono hz)
      have hz2 : w.heap.size ≤ w2.heap.size := B2.size
      clear hb2 x y xC0 xC1 xF0 xF1 yC0 yC1 yF0 yF1
      cases x2 with
      | true =>
        go_wp2_with fail
        go_ret
        exact ⟨rfl, B2⟩
      | false =>
        go_wp2_with fail
        refine (has_b H3.out a0 a1 a2 c0 hc _).mono ?_
        rintro e w3 ⟨rfl, hb3⟩
        have p3_ := blk_below p2.out hb3
        have p3C0 := blk_cell p3_ 0
        have p3F0 := blk_frozen p3_ 0
        have p3C1 := blk_cell p3_ 1
        have p3F1 := blk_frozen p3_ 1
        simp only [List.getElem?_toArray, List.getElem?_cons_zero, List.getElem?_cons_succ] at p3C0 p3C1
        have p3 := Lib.hid p3_
        clear p3_
        have q3_ := blk_below q2.out hb3
        have q3C0 := blk_cell q3_ 0
        have q3F0 := blk_frozen q3_ 0
        have q3C1 := blk_cell q3_ 1
        have q3F1 := blk_frozen q3_ 1
        simp only [List.getElem?_toArray, List.getElem?_cons_zero, List.getElem?_cons_succ] at q3C0 q3C1
        have q3 := Lib.hid q3_
        clear q3_
        have B3 : Below w.heap.size w w3 := B2.trans (hb3.mono hz2)
        have hz3 : w.heap.size ≤ w3.heap.size := B3.size
        clear hb3 p2 q2 p2C0 p2C1 p2F0 p2F1 q2C0 q2C1 q2F0 q2F1
        cases x3 with
        | true =>
          go_wp2_with fail
          go_ret
          exact ⟨rfl, B3⟩
        | false =>
          go_wp2_with fail
          refine (has_b H4.out c0 c1 c2 a0 ha _).mono ?_
          rintro e w4 ⟨rfl, hb4⟩
          go_wp2_with fail
          go_ret
          exact ⟨by cases x4 <;> rfl, B3.trans (hb4.mono hz3)⟩
end Go.Proofs.Ytnocdfajeanmdaa
