import Derived.Test.YtkajfadhlgmcjaaLabFold
namespace Go.Proofs.Ytkajfadhlgmcjaa
open Go Go.RowKit Go.Shelf Go.Proofs.YtkajfadhlgmcjaaW.PrintWords Go.Proofs.YtkajfadhlgmcjaaW.PrintLast Go.Proofs.YtkajfadhlgmcjaaW.PrintMore
set_option linter.unusedVariables false
set_option linter.unusedSimpArgs false
theorem ofL_range (a : Int) : 0 ≤ ofL a ∧ ofL a ≤ 5 := by unfold ofL; split <;> omega
theorem ofL_of {a : Int} (h : 0 ≤ a ∧ a ≤ 5) : ofL a = a := if_pos h
/-- The greater of two levels. -/
def upL (a b : Int) : Int := if ofL a ≤ ofL b then ofL b else ofL a
/-- The lesser of two levels. -/
def dnL (a b : Int) : Int := if ofL a ≤ ofL b then ofL a else ofL b
def raL (a : Int) : Int := if ofL a = 0 then 5 else ofL a
def loL (a : Int) : Int := if ofL a = 5 then 0 else ofL a
theorem lev_greatest (a b : Int) : PLev.level_greatest.f 3 [a, b] = some (upL a b) := by
  have ha := ofL_range a
  have hb := ofL_range b
  simp only [PLev.level_greatest.f, PLev.level_greatest.l0, lev_of, List.length_cons, List.length_nil, rd]
  simp [wrap64, PLev.level_greatest.l0, lev_of]
  unfold upL
  simp [mx]
  split <;> split <;> split <;> omega
theorem lev_join (a b : Int) (w : World) : Calls Try.prog 60 #[.int .i64 a, .int .i64 b] w fun e w' => e = .returned (.int .i64 (upL a b)) ∧ Below w.heap.size w w' := by
  refine PLev.level_Join.calls 3 a b _ w ?_
  unfold PLev.level_Join.f; rw [lev_greatest]; rfl
theorem lev_meet (a b : Int) (w : World) : Calls Try.prog 61 #[.int .i64 a, .int .i64 b] w fun e w' => e = .returned (.int .i64 (dnL a b)) ∧ Below w.heap.size w w' := by
  refine PLev.level_Meet.calls 3 a b _ w ?_
  have ha := ofL_range a
  have hb := ofL_range b
  unfold PLev.level_Meet.f; rw [lev_greatest, lev_of, lev_of]
  simp only [Option.bind_some, Option.some.injEq]
  unfold upL dnL wrap64
  split <;> omega
theorem of_calls (a : Int) (w : World) : Calls Try.prog 86 #[.int .i64 a] w fun e w' => e = .returned (.int .i64 (ofL a)) ∧ Below w.heap.size w w' := by
  refine (PLev.level_of.calls a (ofL a) w (lev_of a)).mono ?_
  rintro e w' ⟨rfl, m, rfl⟩; exact ⟨rfl, pw_below_drewN (Below.refl _ _) _⟩
theorem lev_raise (a : Int) (w : World) : Calls Try.prog 64 #[.int .i64 a] w fun e w' => e = .returned (.int .i64 (raL a)) ∧ Below w.heap.size w w' := by
  by_cases h : ofL a = 0
  · have h1 : (ofL a == 0) = true := beq_iff_eq.2 h
    have h2 : (ofL a != 0) = false := bne_eq_false_iff_eq.2 h
    have HR : Hid (raL a = 5) := Lib.hid (if_pos h)
    have H := Lib.hid h
    clear h
    go_enter Try.func64, Try.ntmps64
    go_wp2_with (go_at_call 86; refine (of_calls _ _).mono ?_; rintro e w1 ⟨rfl, hb⟩)
    go_ret
    exact ⟨by rw [HR.out]; rfl, hb⟩
  · have h1 : (ofL a == 0) = false := beq_eq_false_iff_ne.2 h
    have h2 : (ofL a != 0) = true := bne_iff_ne.2 h
    have HR : Hid (raL a = ofL a) := Lib.hid (if_neg h)
    have H := Lib.hid h
    clear h
    go_enter Try.func64, Try.ntmps64
    go_wp2_with (go_at_call 86; refine (of_calls _ _).mono ?_; rintro e w1 ⟨rfl, hb⟩)
    go_ret
    exact ⟨by rw [HR.out]; rfl, hb⟩
theorem lev_lower (a : Int) (w : World) : Calls Try.prog 66 #[.int .i64 a] w fun e w' => e = .returned (.int .i64 (loL a)) ∧ Below w.heap.size w w' := by
  have HR : Hid ((ofL a).tmod 5 = loL a) := Lib.hid (by
    have ha := ofL_range a
    obtain ⟨n, hn⟩ : ∃ n : Nat, ofL a = n := ⟨(ofL a).toNat, by omega⟩
    unfold loL; rw [hn]
    have : n = 0 ∨ n = 1 ∨ n = 2 ∨ n = 3 ∨ n = 4 ∨ n = 5 := by omega
    rcases this with rfl | rfl | rfl | rfl | rfl | rfl <;> rfl)
  go_enter Try.func66, Try.ntmps66
  go_wp2_with (go_at_call 86; refine (of_calls _ _).mono ?_; rintro e w1 ⟨rfl, hb⟩)
  go_ret
  exact ⟨by rw [← HR.out]; rfl, hb⟩
theorem raise1_calls (a b : Int) (w : World) : Calls Try.prog 63 #[.int .i64 a, .int .i64 b] w fun e w' => e = .returned (.int .i64 (raL a)) ∧ Below w.heap.size w w' := by
  go_enter Try.func63, Try.ntmps63
  go_wp2_with (go_at_call 64; refine (lev_raise _ _).mono ?_; rintro e w1 ⟨rfl, hb⟩)
  go_ret
  exact ⟨rfl, hb⟩
theorem lower1_calls (a b : Int) (w : World) : Calls Try.prog 65 #[.int .i64 a, .int .i64 b] w fun e w' => e = .returned (.int .i64 (loL a)) ∧ Below w.heap.size w w' := by
  go_enter Try.func65, Try.ntmps65
  go_wp2_with (go_at_call 66; refine (lev_lower _ _).mono ?_; rintro e w1 ⟨rfl, hb⟩)
  go_ret
  exact ⟨rfl, hb⟩
theorem join_calls (la lb : Lab) (Aa Ab : Option Addr) (ca cb : Nat) (w : World) (hCa : kPr.C w Aa la.length la) (hCb : kPr.C w Ab lb.length lb) (hca : la.length ≤ ca) (hcb : lb.length ≤ cb) (hlen : la.length + lb.length ≤ 1000000) :
    Calls Try.prog 20 #[.slice Aa la.length ca, .slice Ab lb.length cb] w fun e w' => ∃ v, e = .returned v ∧ Kd.R kPr 46 w' w.heap.size (fun _ => True) v (foldB upL la lb) ∧ Below w.heap.size w w' := by
  go_enter Try.func20, Try.ntmps20
  go_wp2_with (go_at_call 59; refine (folded_calls 60 upL (enters_of Try.func60 (by kernel_rfl) rfl) lev_join la lb Aa Ab ca cb _ hCa hCb hca hcb hlen).mono ?_; rintro e w1 ⟨v, rfl, hr, hb⟩)
  go_ret
  exact ⟨v, rfl, hr, hb⟩
theorem meet_calls (la lb : Lab) (Aa Ab : Option Addr) (ca cb : Nat) (w : World) (hCa : kPr.C w Aa la.length la) (hCb : kPr.C w Ab lb.length lb) (hca : la.length ≤ ca) (hcb : lb.length ≤ cb) (hlen : la.length + lb.length ≤ 1000000) :
    Calls Try.prog 21 #[.slice Aa la.length ca, .slice Ab lb.length cb] w fun e w' => ∃ v, e = .returned v ∧ Kd.R kPr 46 w' w.heap.size (fun _ => True) v (foldB dnL la lb) ∧ Below w.heap.size w w' := by
  go_enter Try.func21, Try.ntmps21
  go_wp2_with (go_at_call 59; refine (folded_calls 61 dnL (enters_of Try.func61 (by kernel_rfl) rfl) lev_meet la lb Aa Ab ca cb _ hCa hCb hca hcb hlen).mono ?_; rintro e w1 ⟨v, rfl, hr, hb⟩)
  go_ret
  exact ⟨v, rfl, hr, hb⟩
theorem C_nil0 (w : World) : kPr.C w none ([] : Lab).length ([] : Lab) := by
  obtain ⟨A, c, he, _, h⟩ := Kd.R_reads (Kd.R_nil kPr 0 w 0 (fun _ => True))
  cases he; exact h
theorem raise_calls (la : Lab) (Aa : Option Addr) (ca : Nat) (w : World) (hCa : kPr.C w Aa la.length la) (hca : la.length ≤ ca) (hlen : la.length ≤ 1000000) :
    Calls Try.prog 23 #[.slice Aa la.length ca] w fun e w' => ∃ v, e = .returned v ∧ Kd.R kPr 46 w' w.heap.size (fun _ => True) v (foldB (fun a _ => raL a) la []) ∧ Below w.heap.size w w' := by
  have h0 := Lib.hid (C_nil0 w)
  go_enter Try.func23, Try.ntmps23
  go_wp2_with (go_at_call 59; refine (folded_calls 63 (fun a _ => raL a) (enters_of Try.func63 (by kernel_rfl) rfl) raise1_calls la [] Aa none ca 0 _ hCa h0.out hca (Nat.le_refl _) (by simpa using hlen)).mono ?_; rintro e w1 ⟨v, rfl, hr, hb⟩)
  go_ret
  exact ⟨v, rfl, hr, hb⟩
theorem lower_calls (la : Lab) (Aa : Option Addr) (ca : Nat) (w : World) (hCa : kPr.C w Aa la.length la) (hca : la.length ≤ ca) (hlen : la.length ≤ 1000000) :
    Calls Try.prog 24 #[.slice Aa la.length ca] w fun e w' => ∃ v, e = .returned v ∧ Kd.R kPr 46 w' w.heap.size (fun _ => True) v (foldB (fun a _ => loL a) la []) ∧ Below w.heap.size w w' := by
  have h0 := Lib.hid (C_nil0 w)
  go_enter Try.func24, Try.ntmps24
  go_wp2_with (go_at_call 59; refine (folded_calls 65 (fun a _ => loL a) (enters_of Try.func65 (by kernel_rfl) rfl) lower1_calls la [] Aa none ca 0 _ hCa h0.out hca (Nat.le_refl _) (by simpa using hlen)).mono ?_; rintro e w1 ⟨v, rfl, hr, hb⟩)
  go_ret
  exact ⟨v, rfl, hr, hb⟩
end Go.Proofs.Ytkajfadhlgmcjaa
