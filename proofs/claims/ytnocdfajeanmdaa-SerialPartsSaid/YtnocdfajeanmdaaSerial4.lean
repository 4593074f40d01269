import Derived.Test.YtnocdfajeanmdaaSerial3
namespace Go.Proofs.Ytnocdfajeanmdaa
open Go Go.RowKit Go.Proofs.YtnocdfajeanmdaaW.PrintWords Go.Proofs.YtnocdfajeanmdaaW.PrintLast Go.Proofs.YtnocdfajeanmdaaW.PrintMore
set_option linter.unusedVariables false
set_option linter.unusedSimpArgs false
attribute [local go_sem] ov_cell ov_frozen
theorem reftake_some (lo hi : Int) (h0 : 0 ≤ lo) (h1 : lo < hi) (h2 : hi ≤ 2305843009213693952) (w : World) :
    Calls Try.prog 36 #[.agg #[.int .u64 lo, .int .u64 hi]] w fun e w' => e = .returned (.tuple #[.int .u64 lo, .agg #[.int .u64 (lo + 1), .int .u64 hi], .int .i64 0]) ∧ Below w.heap.size w w' := by
  have hd : (lo == hi) = false := by rw [beq_eq_false_iff_ne]; omega
  go_enter Try.func36, Try.ntmps36
  go_wp2
  go_region
  all_goals go_wp2
  all_goals refine bodyPost_ret (v := .tuple #[.int .u64 lo, .agg #[.int .u64 (lo + 1), .int .u64 hi], .int .i64 0]) (by simp [results, Try.results36, go_sem]) rfl ⟨rfl, ?_⟩
  all_goals exact (by repeat (first | with_reducible (exact Below.refl _ _) | with_reducible (apply below_alloc) | with_reducible (apply below_drew1) | with_reducible (apply pw_below_drewN) | (with_reducible (refine bel_set ?_ ?_ _ _); rotate_left; omega)))
theorem reftake_none (lo : Int) (h0 : 0 ≤ lo) (h2 : lo ≤ 2305843009213693952) (w : World) :
    Calls Try.prog 36 #[.agg #[.int .u64 lo, .int .u64 lo]] w fun e w' => e = .returned (.tuple #[.int .u64 0, .agg #[.int .u64 lo, .int .u64 lo], .int .i64 7]) ∧ Below w.heap.size w w' := by
  go_enter Try.func36, Try.ntmps36
  go_wp2
  go_region
  all_goals go_wp2
  all_goals refine bodyPost_ret (v := .tuple #[.int .u64 0, .agg #[.int .u64 lo, .int .u64 lo], .int .i64 7]) (by simp [results, Try.results36, go_sem]) rfl ⟨rfl, ?_⟩
  all_goals exact (by repeat (first | with_reducible (exact Below.refl _ _) | with_reducible (apply below_alloc) | with_reducible (apply below_drew1) | with_reducible (apply pw_below_drewN) | (with_reducible (refine bel_set ?_ ?_ _ _); rotate_left; omega)))
theorem refsplit_none (lo hi : Int) (h0 : 0 ≤ lo) (h1 : lo ≤ hi) (h2 : hi ≤ 2305843009213693952) (hs : hi - lo < 16) (w : World) :
    Calls Try.prog 37 #[.agg #[.int .u64 lo, .int .u64 hi]] w fun e w' => e = .returned (.tuple #[.agg #[.int .u64 lo, .int .u64 hi], .agg #[.int .u64 0, .int .u64 0], .int .i64 7]) ∧ Below w.heap.size w w' := by
  have hd : (((hi - lo) / 16) == 0) = true := by rw [beq_iff_eq]; omega
  have hp : 0 ≤ hi - lo := by omega
  go_enter Try.func37, Try.ntmps37
  go_wp2
  refine bodyPost_ret (v := .tuple #[.agg #[.int .u64 lo, .int .u64 hi], .agg #[.int .u64 0, .int .u64 0], .int .i64 7]) (by simp [results, Try.results37, go_sem]) rfl ⟨rfl, ?_⟩
  exact (by repeat (first | with_reducible (exact Below.refl _ _) | with_reducible (apply below_alloc) | with_reducible (apply below_drew1) | with_reducible (apply pw_below_drewN) | (with_reducible (refine bel_set ?_ ?_ _ _); rotate_left; omega)))
set_option maxHeartbeats 1000000 in
theorem refsplit_some (lo hi : Int) (h0 : 0 ≤ lo) (h1 : lo ≤ hi) (h2 : hi ≤ 2305843009213693952) (hs : 16 ≤ hi - lo) (w : World) :
    Calls Try.prog 37 #[.agg #[.int .u64 lo, .int .u64 hi]] w fun e w' => e = .returned (.tuple #[.agg #[.int .u64 lo, .int .u64 (hi - (hi - lo) / 16)], .agg #[.int .u64 (hi - (hi - lo) / 16), .int .u64 hi], .int .i64 0]) ∧ Below w.heap.size w w' := by
  have hd : (((hi - lo) / 16) == 0) = false := by rw [beq_eq_false_iff_ne]; omega
  have hp : 0 ≤ hi - lo := by omega
  have hp1 : 0 ≤ (hi - lo) / 16 := by omega
  have hp2 : (hi - lo) / 16 ≤ hi := by omega
  go_enter Try.func37, Try.ntmps37
  go_wp2
  go_region
  all_goals go_wp2
  all_goals refine bodyPost_ret (v := .tuple #[.agg #[.int .u64 lo, .int .u64 (hi - (hi - lo) / 16)], .agg #[.int .u64 (hi - (hi - lo) / 16), .int .u64 hi], .int .i64 0]) (by simp [results, Try.results37, go_sem]) rfl ⟨rfl, ?_⟩
  all_goals exact (by repeat (first | with_reducible (exact Below.refl _ _) | with_reducible (apply below_alloc) | with_reducible (apply below_drew1) | with_reducible (apply pw_below_drewN) | (with_reducible (refine bel_set ?_ ?_ _ _); rotate_left; omega)))
theorem refhas_calls (key name : BitVec 64) (lo hi : Int) (w : World) :
    Calls Try.prog 38 #[.int .u64 (V key), .agg #[.int .u64 lo, .int .u64 hi], .int .u64 (V name)] w fun e w' => e = .returned (.bool (hasB key lo hi name)) ∧ Below w.heap.size w w' := by
  obtain ⟨x1, h1⟩ : ∃ x, decide (V name ≥ 1) = x := ⟨_, rfl⟩
  obtain ⟨x2, h2⟩ : ∃ x, decide (V name ≤ 2305843009213693952) = x := ⟨_, rfl⟩
  obtain ⟨x3, h3⟩ : ∃ x, decide (V (numberB key name) ≥ lo) = x := ⟨_, rfl⟩
  have hr : hasB key lo hi name = ((x1 && x2) && (x3 && decide (V (numberB key name) < hi))) := by
    subst h1; subst h2; subst h3
    unfold hasB
    rw [Bool.eq_iff_iff]
    simp
    omega
  rw [hr]
  clear hr
  cases x1 <;> cases x2 <;> cases x3
  all_goals
    go_enter Try.func38, Try.ntmps38
    go_wp2_with (go_at_call 21; refine (refnumber_calls _ _ _).mono ?_; rintro e w1 ⟨rfl, rfl⟩)
    go_ret
    exact ⟨by simp, (by repeat (first | with_reducible (exact Below.refl _ _) | with_reducible (apply below_alloc) | with_reducible (apply below_drew1) | with_reducible (apply pw_below_drewN) | (with_reducible (refine bel_set ?_ ?_ _ _); rotate_left; omega)))⟩
theorem refapart_calls (a b c d : Int) (w : World) :
    Calls Try.prog 40 #[.agg #[.int .u64 a, .int .u64 b], .agg #[.int .u64 c, .int .u64 d]] w fun e w' => e = .returned (.bool (apartB a b c d)) ∧ Below w.heap.size w w' := by
  obtain ⟨x1, h1⟩ : ∃ x, (a == b) = x := ⟨_, rfl⟩
  obtain ⟨x2, h2⟩ : ∃ x, (c == d) = x := ⟨_, rfl⟩
  obtain ⟨x3, h3⟩ : ∃ x, decide (b ≤ c) = x := ⟨_, rfl⟩
  have hr : apartB a b c d = (x1 || (x2 || (x3 || decide (d ≤ a)))) := by
    subst h1; subst h2; subst h3
    unfold apartB
    rw [Bool.eq_iff_iff]
    simp
  rw [hr]
  clear hr
  cases x1 <;> cases x2 <;> cases x3
  all_goals
    go_enter Try.func40, Try.ntmps40
    go_wp2
    go_ret
    exact ⟨by simp, (by repeat (first | with_reducible (exact Below.refl _ _) | with_reducible (apply below_alloc) | with_reducible (apply below_drew1) | with_reducible (apply pw_below_drewN) | (with_reducible (refine bel_set ?_ ?_ _ _); rotate_left; omega)))⟩
end Go.Proofs.Ytnocdfajeanmdaa
