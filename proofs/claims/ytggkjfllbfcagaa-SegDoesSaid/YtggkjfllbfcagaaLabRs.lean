import Derived.Test.YtggkjfllbfcagaaLabFold
namespace Go.Proofs.Ytggkjfllbfcagaa
open Go Go.RowKit Go.Shelf Go.Proofs.YtggkjfllbfcagaaW.PrintWords Go.Proofs.YtggkjfllbfcagaaW.PrintLast Go.Proofs.YtggkjfllbfcagaaW.PrintMore
set_option linter.unusedVariables false
set_option linter.unusedSimpArgs false
/-! The label behind label.Raise (out of LabOps, where a cut has no join). -/
def raL (a : Int) : Int := if ofL a = 0 then 5 else ofL a
theorem of_calls (a : Int) (w : World) : Calls Try.prog 170 #[.int .i64 a] w fun e w' => e = .returned (.int .i64 (ofL a)) ∧ Below w.heap.size w w' := by
  refine (PLev.level_of.calls a (ofL a) w (lev_of a)).mono ?_
  rintro e w' ⟨rfl, m, rfl⟩; exact ⟨rfl, pw_below_drewN (Below.refl _ _) _⟩
theorem lev_raise (a : Int) (w : World) : Calls Try.prog 143 #[.int .i64 a] w fun e w' => e = .returned (.int .i64 (raL a)) ∧ Below w.heap.size w w' := by
  by_cases h : ofL a = 0
  · have h1 : (ofL a == 0) = true := beq_iff_eq.2 h
    have h2 : (ofL a != 0) = false := bne_eq_false_iff_eq.2 h
    have HR : Hid (raL a = 5) := Lib.hid (if_pos h)
    have H := Lib.hid h
    clear h
    go_enter Try.func143, Try.ntmps143
    go_wp2_with (go_at_call 170; refine (of_calls _ _).mono ?_; rintro e w1 ⟨rfl, hb⟩)
    go_ret
    exact ⟨by rw [HR.out]; rfl, hb⟩
  · have h1 : (ofL a == 0) = false := beq_eq_false_iff_ne.2 h
    have h2 : (ofL a != 0) = true := bne_iff_ne.2 h
    have HR : Hid (raL a = ofL a) := Lib.hid (if_neg h)
    have H := Lib.hid h
    clear h
    go_enter Try.func143, Try.ntmps143
    go_wp2_with (go_at_call 170; refine (of_calls _ _).mono ?_; rintro e w1 ⟨rfl, hb⟩)
    go_ret
    exact ⟨by rw [HR.out]; rfl, hb⟩
theorem raise1_calls (a b : Int) (w : World) : Calls Try.prog 142 #[.int .i64 a, .int .i64 b] w fun e w' => e = .returned (.int .i64 (raL a)) ∧ Below w.heap.size w w' := by
  go_enter Try.func142, Try.ntmps142
  go_wp2_with (go_at_call 143; refine (lev_raise _ _).mono ?_; rintro e w1 ⟨rfl, hb⟩)
  go_ret
  exact ⟨rfl, hb⟩
theorem C_nil0 (w : World) : kPr.C w none ([] : Lab).length ([] : Lab) := by
  obtain ⟨A, c, he, _, h⟩ := Kd.R_reads (Kd.R_nil kPr 0 w 0 (fun _ => True))
  cases he; exact h
theorem raise_calls (la : Lab) (Aa : Option Addr) (ca : Nat) (w : World) (hCa : kPr.C w Aa la.length la) (hca : la.length ≤ ca) (hlen : la.length ≤ 1000000) :
    Calls Try.prog 114 #[.slice Aa la.length ca] w fun e w' => ∃ v, e = .returned v ∧ Kd.R kPr 100 w' w.heap.size (fun _ => True) v (foldB (fun a _ => raL a) la []) ∧ Below w.heap.size w w' := by
  have h0 := Lib.hid (C_nil0 w)
  go_enter Try.func114, Try.ntmps114
  go_wp2_with (go_at_call 141; refine (folded_calls 142 (fun a _ => raL a) (enters_of Try.func142 (by kernel_rfl) rfl) raise1_calls la [] Aa none ca 0 _ hCa h0.out hca (Nat.le_refl _) (by simpa using hlen)).mono ?_; rintro e w1 ⟨v, rfl, hr, hb⟩)
  go_ret
  exact ⟨v, rfl, hr, hb⟩
end Go.Proofs.Ytggkjfllbfcagaa
