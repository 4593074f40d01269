import Derived.Test.YtnocdfajeanmdaaPermRef
import Derived.Test.YtnocdfajeanmdaaRegion
import Derived.RegionTactic
import Derived.ChangeAlike
import Derived.Deep.QuietTactic
import Derived.BigQuiet
namespace Go.Proofs.Ytnocdfajeanmdaa
open Go Go.RowKit Go.Proofs.YtnocdfajeanmdaaW.PrintWords Go.Proofs.YtnocdfajeanmdaaW.PrintLast Go.Proofs.YtnocdfajeanmdaaW.PrintMore
set_option linter.unusedVariables false
set_option linter.unusedSimpArgs false
attribute [local go_sem] ov_cell ov_frozen
/-- A span as a value. -/
def spanV (lo hi : Int) : Value := .agg #[.int .u64 lo, .int .u64 hi]
theorem ret_bool {a b : Bool} (h : a = b) : Ending.returned (.bool a) = .returned (.bool b) := by rw [h]
theorem left_calls (lo hi : Int) (h0 : 0 ≤ lo) (h1 : lo ≤ hi) (h2 : hi ≤ 2305843009213693952) (w : World) :
    Calls Try.prog 42 #[.agg #[.int .u64 lo, .int .u64 hi]] w fun e w' => e = .returned (.int .u64 (hi - lo)) ∧ Below w.heap.size w w' := by
  go_enter Try.func42, Try.ntmps42
  go_wp2
  go_ret
  exact ⟨rfl, (Below.refl _ _).alloc (Nat.le_refl _) _⟩
theorem none_calls (lo hi : Int) (h0 : 0 ≤ lo) (h1 : lo ≤ hi) (h2 : hi ≤ 2305843009213693952) (w : World) :
    Calls Try.prog 41 #[.agg #[.int .u64 lo, .int .u64 hi], .func (.func 42) #[] #[]] w fun e w' => e = .returned (.bool (hi - lo == 0)) ∧ Below w.heap.size w w' := by
  go_enter Try.func41, Try.ntmps41
  go_wp2_with (go_at_call 42; refine (left_calls _ _ h0 h1 h2 _).mono ?_; rintro e w' ⟨rfl, hb⟩)
  go_ret
  exact ⟨rfl, ((Below.refl _ _).alloc (Nat.le_refl _) _).trans (hb.mono (by simp))⟩
theorem cut_calls (lo hi at_ : Int) (w : World) :
    Calls Try.prog 43 #[.agg #[.int .u64 lo, .int .u64 hi], .int .u64 at_] w fun e w' => e = .returned (.tuple #[.agg #[.int .u64 lo, .int .u64 at_], .agg #[.int .u64 at_, .int .u64 hi]]) ∧ Below w.heap.size w w' := by
  go_enter Try.func43, Try.ntmps43
  go_wp2
  go_region
  all_goals go_wp2
  all_goals
    refine bodyPost_ret (v := .tuple #[.agg #[.int .u64 lo, .int .u64 at_], .agg #[.int .u64 at_, .int .u64 hi]]) (by simp [results, Try.results43, go_sem]) rfl ⟨rfl, ?_⟩
    exact ((((Below.refl _ _).alloc (Nat.le_refl _) _).alloc (by simp) _).alloc (by simp; omega) _).drew
theorem fit_calls (lo hi : Int) (w : World) :
    Calls Try.prog 35 #[.agg #[.int .u64 lo, .int .u64 hi]] w fun e w' => e = .returned (.bool (decide (lo ≤ hi) && decide (hi ≤ 2305843009213693952))) ∧ Below w.heap.size w w' := by
  by_cases h : lo ≤ hi
  · have hd := decide_eq_true h
    go_enter Try.func35, Try.ntmps35
    go_wp2
    go_ret
    exact ⟨by simp [h], (Below.refl _ _).alloc (Nat.le_refl _) _⟩
  · have hd := decide_eq_false h
    go_enter Try.func35, Try.ntmps35
    go_wp2
    go_ret
    exact ⟨by simp, (Below.refl _ _).alloc (Nat.le_refl _) _⟩
theorem has_calls (lo hi n : Int) (h0 : 0 ≤ lo) (h1 : lo ≤ hi) (h2 : hi ≤ 2305843009213693952) (hn0 : 0 ≤ n) (hn1 : n < 18446744073709551616) (w : World) :
    Calls Try.prog 46 #[.agg #[.int .u64 lo, .int .u64 hi], .int .u64 n] w fun e w' => e = .returned (.bool (decide (lo ≤ n) && decide (n < hi))) ∧ Below w.heap.size w w' := by
  by_cases hl : lo ≤ n
  · have hw : IntKind.u64.wrap (n - lo) = n - lo := by rw [IntKind.wrap_u64]; omega
    by_cases hh : n < hi
    · have d1 : decide (n - lo < hi - lo) = true := decide_eq_true (by omega)
      have d2 : decide (n ≥ lo) = true := decide_eq_true hl
      rw [show (decide (lo ≤ n) && decide (n < hi)) = true from by simp [hl, hh]]
      have d3 : decide (n < hi) = true := decide_eq_true hh
      go_enter Try.func46, Try.ntmps46
      go_wp2_with fail
      refine wp_region_ov (by kernel_rfl) (by kernel_rfl) ?_
      repeat (go_big_quiet_step ((go_at_call 42; exact Calls_ov (left_calls _ _ h0 h1 h2 _))))
      refine wpQuiet_nil ?_
      intro w' hb
      go_wp2
      go_ret
      exact ⟨rfl, ((Below.refl _ _).alloc (Nat.le_refl _) _).trans (hb.mono (by simp))⟩
    · have d1 : decide (n - lo < hi - lo) = false := decide_eq_false (by omega)
      rw [show (decide (lo ≤ n) && decide (n < hi)) = false from by simp [hh]]
      have d3 : decide (n < hi) = false := decide_eq_false hh
      go_enter Try.func46, Try.ntmps46
      go_wp2_with fail
      refine wp_region_ov (by kernel_rfl) (by kernel_rfl) ?_
      repeat (go_big_quiet_step ((go_at_call 42; exact Calls_ov (left_calls _ _ h0 h1 h2 _))))
      refine wpQuiet_nil ?_
      intro w' hb
      go_wp2
      go_ret
      exact ⟨rfl, ((Below.refl _ _).alloc (Nat.le_refl _) _).trans (hb.mono (by simp))⟩
  · have hw : IntKind.u64.wrap (n - lo) = n - lo + 18446744073709551616 := by rw [IntKind.wrap_u64]; omega
    have d1 : decide (n - lo + 18446744073709551616 < hi - lo) = false := decide_eq_false (by omega)
    rw [show (decide (lo ≤ n) && decide (n < hi)) = false from by simp [hl]]
    obtain ⟨m, hm⟩ : ∃ m, n - lo + 18446744073709551616 = m := ⟨_, rfl⟩
    rw [hm] at hw d1
    clear hl hm
    go_enter Try.func46, Try.ntmps46
    go_wp2_with fail
    refine wp_region_ov (by kernel_rfl) (by kernel_rfl) ?_
    repeat (go_big_quiet_step ((go_at_call 42; exact Calls_ov (left_calls _ _ h0 h1 h2 _))))
    refine wpQuiet_nil ?_
    intro w' hb
    go_wp2
    go_ret
    exact ⟨rfl, ((Below.refl _ _).alloc (Nat.le_refl _) _).trans (hb.mono (by simp))⟩

end Go.Proofs.Ytnocdfajeanmdaa
