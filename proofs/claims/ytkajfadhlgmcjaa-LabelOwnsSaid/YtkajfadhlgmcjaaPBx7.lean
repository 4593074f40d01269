-- PRINTED by print.py (a twelfth state) out of the translation. Not trusted: Lean checks it.
import Derived.Test.YtkajfadhlgmcjaaPBx0
import Derived.Test.YtkajfadhlgmcjaaPBx2
namespace Go.Proofs.Ytkajfadhlgmcjaa.PB
open Go.RowKit Go.Proofs.YtkajfadhlgmcjaaW.PrintWords Go.Proofs.YtkajfadhlgmcjaaW.PrintLast Go.Proofs.YtkajfadhlgmcjaaW.PrintMore
attribute [local go_sem] max2_int min2_int max_two min_two max_three min_three max_four min_four   -- for this text's walks alone
set_option linter.unusedVariables false
set_option linter.unusedSimpArgs false

/-! ### label_Get: function 22 -/
def label_Get.f (l0 : List S46) (a1 : Int) : Option Int := if sortB (toL l0) = true ∧ l0.length ≤ 1000000 then some (getL (toL l0) a1) else none
theorem label_Get.calls (A0 : Option Addr) (c0 : Nat) (l0 : List S46) (a1 : Int) (r : Int) (w : World) (hr0 : Kd.C k46 w A0 l0.length l0) (hc0 : l0.length ≤ c0) (h : label_Get.f l0 a1 = some r) :
    Calls Try.prog 22 #[.slice A0 l0.length c0, .int .u64 a1] w fun e w' => e = .returned (.int .i64 r) ∧ Below w.heap.size w w' := by
  unfold label_Get.f at h
  split at h
  · rename_i hl
    obtain rfl := Option.some.inj h
    have := get_calls (toL l0) A0 c0 a1 w (C_toL hr0) (by rw [toL_len]; exact hc0) (sortB_sorted hl.1) (by rw [toL_len]; exact hl.2)
    rw [toL_len] at this
    exact this
  · cases h
/-! ### label_Raise: function 23 -/
def label_Raise.f (l0 : List S46) : Option (List S46) := if l0.length ≤ 1000000 then some (ofLab (raiseB (toL l0))) else none
theorem label_Raise.calls (A0 : Option Addr) (c0 : Nat) (l0 : List S46) (r : List S46) (w : World) (hr0 : Kd.C k46 w A0 l0.length l0) (hc0 : l0.length ≤ c0) (h : label_Raise.f l0 = some r) :
    Calls Try.prog 23 #[.slice A0 l0.length c0] w fun e w' => ∃ v0_ : Value, e = .returned (v0_) ∧ Kd.R k46 46 w' w.heap.size (fun _ => True) v0_ r ∧ Below w.heap.size w w' := by
  unfold label_Raise.f at h
  split at h
  · rename_i hl
    obtain rfl := Option.some.inj h
    have := raise_calls (toL l0) A0 c0 w (C_toL hr0) (by rw [toL_len]; exact hc0) (by rw [toL_len]; exact hl)
    rw [toL_len] at this
    refine this.mono ?_
    rintro e w' ⟨v, he, hr, hb⟩
    exact ⟨v, he, R_ofLab hr, hb⟩
  · cases h
/-! ### label_Lower: function 24 -/
def label_Lower.f (l0 : List S46) : Option (List S46) := if l0.length ≤ 1000000 then some (ofLab (lowerB (toL l0))) else none
theorem label_Lower.calls (A0 : Option Addr) (c0 : Nat) (l0 : List S46) (r : List S46) (w : World) (hr0 : Kd.C k46 w A0 l0.length l0) (hc0 : l0.length ≤ c0) (h : label_Lower.f l0 = some r) :
    Calls Try.prog 24 #[.slice A0 l0.length c0] w fun e w' => ∃ v0_ : Value, e = .returned (v0_) ∧ Kd.R k46 46 w' w.heap.size (fun _ => True) v0_ r ∧ Below w.heap.size w w' := by
  unfold label_Lower.f at h
  split at h
  · rename_i hl
    obtain rfl := Option.some.inj h
    have := lower_calls (toL l0) A0 c0 w (C_toL hr0) (by rw [toL_len]; exact hc0) (by rw [toL_len]; exact hl)
    rw [toL_len] at this
    refine this.mono ?_
    rintro e w' ⟨v, he, hr, hb⟩
    exact ⟨v, he, R_ofLab hr, hb⟩
  · cases h
end Go.Proofs.Ytkajfadhlgmcjaa.PB
