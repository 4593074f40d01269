-- PRINTED by print.py (a twelfth state) out of the translation. Not trusted: Lean checks it.
import Derived.Test.YtkajfadhlgmcjaaPCx0
import Derived.Test.YtkajfadhlgmcjaaPCx2
namespace Go.Proofs.Ytkajfadhlgmcjaa.PC
open Go.RowKit Go.Proofs.YtkajfadhlgmcjaaW.PrintWords Go.Proofs.YtkajfadhlgmcjaaW.PrintLast Go.Proofs.YtkajfadhlgmcjaaW.PrintMore
attribute [local go_sem] max2_int min2_int max_two min_two max_three min_three max_four min_four   -- for this text's walks alone
set_option linter.unusedVariables false
set_option linter.unusedSimpArgs false

/-! ### check_Enter: function 42 -/
def check_Enter.f (l0 l1 l2 l3 l4 l5 : List S46) : Option Bool := if l0.length ≤ 1000 ∧ l1.length ≤ 1000 ∧ l2.length ≤ 1000 ∧ l3.length ≤ 1000 ∧ l4.length ≤ 1000 ∧ l5.length ≤ 1000 then some (plainB (toL l4) && (plainB (toL l5) && (leqB (toL l0) (toL l3) && (leqB (lowerB (joinB (raiseB (toL l0)) (raiseB (toL l2)))) (toL l4) && (leqB (toL l4) (toL l5) && leqB (toL l5) (joinB (toL l1) (toL l3))))))) else none
theorem check_Enter.calls (A0 : Option Addr) (c0 : Nat) (l0 : List S46) (A1 : Option Addr) (c1 : Nat) (l1 : List S46) (A2 : Option Addr) (c2 : Nat) (l2 : List S46) (A3 : Option Addr) (c3 : Nat) (l3 : List S46) (A4 : Option Addr) (c4 : Nat) (l4 : List S46) (A5 : Option Addr) (c5 : Nat) (l5 : List S46) (r : Bool) (w : World) (hr0 : Kd.C k46 w A0 l0.length l0) (hc0 : l0.length ≤ c0) (hr1 : Kd.C k46 w A1 l1.length l1) (hc1 : l1.length ≤ c1) (hr2 : Kd.C k46 w A2 l2.length l2) (hc2 : l2.length ≤ c2) (hr3 : Kd.C k46 w A3 l3.length l3) (hc3 : l3.length ≤ c3) (hr4 : Kd.C k46 w A4 l4.length l4) (hc4 : l4.length ≤ c4) (hr5 : Kd.C k46 w A5 l5.length l5) (hc5 : l5.length ≤ c5) (h : check_Enter.f l0 l1 l2 l3 l4 l5 = some r) :
    Calls Try.prog 42 #[.slice A0 l0.length c0, .slice A1 l1.length c1, .slice A2 l2.length c2, .slice A3 l3.length c3, .slice A4 l4.length c4, .slice A5 l5.length c5] w fun e w' => e = .returned (.bool r) ∧ Below w.heap.size w w' := by
  unfold check_Enter.f at h
  split at h
  · rename_i hl
    obtain ⟨q0, q1, q2, q3, q4, q5⟩ := hl
    obtain rfl := Option.some.inj h
    have := enter_calls (toL l0) A0 c0 (toL l1) A1 c1 (toL l2) A2 c2 (toL l3) A3 c3 (toL l4) A4 c4 (toL l5) A5 c5 w (C_toL hr0) (by rw [toL_len]; exact hc0) (by rw [toL_len]; exact q0) (C_toL hr1) (by rw [toL_len]; exact hc1) (by rw [toL_len]; exact q1) (C_toL hr2) (by rw [toL_len]; exact hc2) (by rw [toL_len]; exact q2) (C_toL hr3) (by rw [toL_len]; exact hc3) (by rw [toL_len]; exact q3) (C_toL hr4) (by rw [toL_len]; exact hc4) (by rw [toL_len]; exact q4) (C_toL hr5) (by rw [toL_len]; exact hc5) (by rw [toL_len]; exact q5)
    simp only [toL_len] at this
    exact this
  · cases h
end Go.Proofs.Ytkajfadhlgmcjaa.PC
