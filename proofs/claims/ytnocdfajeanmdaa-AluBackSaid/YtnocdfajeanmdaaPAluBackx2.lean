-- PRINTED BY print.sh 35421559b90ae4d0a3588c463048766b98c2df88dd9212a6774a882060cdf62d: not written by this session
import Derived.Test.YtnocdfajeanmdaaPAluBackx0
import Derived.Test.YtnocdfajeanmdaaPAluBackx1
namespace Go.Proofs.Ytnocdfajeanmdaa.PAluBack
open Go.RowKit Go.Proofs.YtnocdfajeanmdaaW.PrintWords Go.Proofs.YtnocdfajeanmdaaW.PrintLast Go.Proofs.YtnocdfajeanmdaaW.PrintMore
attribute [local go_sem] max2_int min2_int max_two min_two max_three min_three max_four min_four   -- for this text's walks alone
set_option linter.unusedVariables false
set_option linter.unusedSimpArgs false

/-! ### curtilagelaw09_AluBack: function 12 -/
def curtilagelaw09_AluBack.j0 : Nat → Int → Bool → Option (Bool)
  | 0, _, _ => none
  | k + 1, x0, x51 => if x51 = true then (some false) else ((alu_Extend.f (wrap32 ((x0) % 4294967296))).bind fun t124 => ((alu_Movh.f t124 (wrap32 ((x0 / 4294967296) % 4294967296))).bind fun t125 => (if t125 = x0 then ((curtilagelaw09_awake.f k).bind fun t126 => (some t126)) else (some false))))
def curtilagelaw09_AluBack.f (k : Nat) (a0 : Int) (a1 : Int) : Option (Bool) := (curtilagelaw09_do.f k 7 a0 a1).bind fun t117 => ((curtilagelaw09_do.f k 8 a0 a1).bind fun t118 => ((curtilagelaw09_do.f k 4 a0 a1).bind fun t119 => ((curtilagelaw09_do.f k 5 t119 a1).bind fun t120 => (if t120 = a0 then (if a1 = 0 then (if t117 = 18446744073709551615 then (curtilagelaw09_AluBack.j0 k a0 (t118 != a0)) else (curtilagelaw09_AluBack.j0 k a0 true)) else ((curtilagelaw09_do.f k 6 t117 a1).bind fun t121 => ((curtilagelaw09_do.f k 4 t121 t118).bind fun t122 => (if t122 = a0 then ((curtilagelaw09_do.f k 16 t118 a1).bind fun t123 => (if t123 = 1 then (curtilagelaw09_AluBack.j0 k a0 false) else (curtilagelaw09_AluBack.j0 k a0 true))) else (curtilagelaw09_AluBack.j0 k a0 true))))) else (curtilagelaw09_AluBack.j0 k a0 true)))))
theorem curtilagelaw09_AluBack.mono_l : ∀ k, (∀ y0 y1, LeO (curtilagelaw09_AluBack.j0 k y0 y1) (curtilagelaw09_AluBack.j0 (k + 1) y0 y1))
  | 0 => fun _ _ r h => by simp [curtilagelaw09_AluBack.j0] at h
  | k + 1 => by
    have ih0 := curtilagelaw09_AluBack.mono_l k
    · intro y0 y1
      unfold curtilagelaw09_AluBack.j0
      repeat' first
      | (with_reducible exact ih0 _ _)
      | (with_reducible exact curtilagelaw09_awake.mono _)
      | (with_reducible exact curtilagelaw09_do.mono _ _ _ _)
      | (with_reducible exact LeO.refl _)
      | (with_reducible exact LeO.none _)
      | (with_reducible refine LeO.ite ?_ ?_)
      | (with_reducible refine LeO.bind ?_ (fun _ => ?_))
      | exact ih0 _ _
      | exact curtilagelaw09_awake.mono _
      | exact curtilagelaw09_do.mono _ _ _ _
      | exact LeO.none _
      | refine LeO.ite ?_ ?_
      | refine LeO.bind ?_ (fun _ => ?_)
theorem curtilagelaw09_AluBack.mono : ∀ a0 a1 k, LeO (curtilagelaw09_AluBack.f k a0 a1) (curtilagelaw09_AluBack.f (k + 1) a0 a1) := by
  intro a0 a1 k
  have ih0 := curtilagelaw09_AluBack.mono_l k
  unfold curtilagelaw09_AluBack.f
  repeat' first
      | (with_reducible exact ih0 _ _)
      | (with_reducible exact curtilagelaw09_awake.mono _)
      | (with_reducible exact curtilagelaw09_do.mono _ _ _ _)
      | (with_reducible exact LeO.refl _)
      | (with_reducible exact LeO.none _)
      | (with_reducible refine LeO.ite ?_ ?_)
      | (with_reducible refine LeO.bind ?_ (fun _ => ?_))
      | exact ih0 _ _
      | exact curtilagelaw09_awake.mono _
      | exact curtilagelaw09_do.mono _ _ _ _
      | exact LeO.none _
      | refine LeO.ite ?_ ?_
      | refine LeO.bind ?_ (fun _ => ?_)
set_option maxHeartbeats 8000000 in
set_option maxRecDepth 100000 in
theorem curtilagelaw09_AluBack.calls (k : Nat) (a0 : Int) (a1 : Int) (r : Bool) (w : World) (h : curtilagelaw09_AluBack.f k a0 a1 = some r) :
    Calls Try.prog 12 #[.int .u64 a0, .int .u64 a1] w fun e w' => e = .returned (.bool r) ∧ Drawn0 w w' := by
  have H : ((curtilagelaw09_do.f k 7 a0 a1).bind fun t117 => ((curtilagelaw09_do.f k 8 a0 a1).bind fun t118 => ((curtilagelaw09_do.f k 4 a0 a1).bind fun t119 => ((curtilagelaw09_do.f k 5 t119 a1).bind fun t120 => (if t120 = a0 then (if a1 = 0 then (if t117 = 18446744073709551615 then (curtilagelaw09_AluBack.j0 k a0 (t118 != a0)) else (curtilagelaw09_AluBack.j0 k a0 true)) else ((curtilagelaw09_do.f k 6 t117 a1).bind fun t121 => ((curtilagelaw09_do.f k 4 t121 t118).bind fun t122 => (if t122 = a0 then ((curtilagelaw09_do.f k 16 t118 a1).bind fun t123 => (if t123 = 1 then (curtilagelaw09_AluBack.j0 k a0 false) else (curtilagelaw09_AluBack.j0 k a0 true))) else (curtilagelaw09_AluBack.j0 k a0 true))))) else (curtilagelaw09_AluBack.j0 k a0 true)))))) = some r := h
  clear h
  replace H := Option.bind_eq_some_iff.mp H
  obtain ⟨t117, A30, H⟩ := H
  replace H : ((curtilagelaw09_do.f k 8 a0 a1).bind fun t118 => ((curtilagelaw09_do.f k 4 a0 a1).bind fun t119 => ((curtilagelaw09_do.f k 5 t119 a1).bind fun t120 => (if t120 = a0 then (if a1 = 0 then (if t117 = 18446744073709551615 then (curtilagelaw09_AluBack.j0 k a0 (t118 != a0)) else (curtilagelaw09_AluBack.j0 k a0 true)) else ((curtilagelaw09_do.f k 6 t117 a1).bind fun t121 => ((curtilagelaw09_do.f k 4 t121 t118).bind fun t122 => (if t122 = a0 then ((curtilagelaw09_do.f k 16 t118 a1).bind fun t123 => (if t123 = 1 then (curtilagelaw09_AluBack.j0 k a0 false) else (curtilagelaw09_AluBack.j0 k a0 true))) else (curtilagelaw09_AluBack.j0 k a0 true))))) else (curtilagelaw09_AluBack.j0 k a0 true))))) = some r := H
  have A3 := Aside0.mk A30
  clear A30
  replace H := Option.bind_eq_some_iff.mp H
  obtain ⟨t118, A40, H⟩ := H
  replace H : ((curtilagelaw09_do.f k 4 a0 a1).bind fun t119 => ((curtilagelaw09_do.f k 5 t119 a1).bind fun t120 => (if t120 = a0 then (if a1 = 0 then (if t117 = 18446744073709551615 then (curtilagelaw09_AluBack.j0 k a0 (t118 != a0)) else (curtilagelaw09_AluBack.j0 k a0 true)) else ((curtilagelaw09_do.f k 6 t117 a1).bind fun t121 => ((curtilagelaw09_do.f k 4 t121 t118).bind fun t122 => (if t122 = a0 then ((curtilagelaw09_do.f k 16 t118 a1).bind fun t123 => (if t123 = 1 then (curtilagelaw09_AluBack.j0 k a0 false) else (curtilagelaw09_AluBack.j0 k a0 true))) else (curtilagelaw09_AluBack.j0 k a0 true))))) else (curtilagelaw09_AluBack.j0 k a0 true)))) = some r := H
  have A4 := Aside0.mk A40
  clear A40
  have HC5 := Aside0.mk H
  clear H
  go_enter Try.func12, Try.ntmps12
  go_upto_region 2 with (first | ((with_reducible refine gate_callee (f := 25) rfl ?_); refine goesL_ (some 9) rfl rfl Try.func25 (by kernel_rfl) rfl #[.int .i64 7, .int .u64 a0, .int .u64 a1] rfl (by (try simp only [List.map_toArray, List.map_cons, List.map_nil]); first | done | rfl | (simp only [List.length_drop, List.length_take]; rfl)) ?_; (with_reducible refine (curtilagelaw09_do.calls k 7 a0 a1 t117 _ A3.out).mono ?_); rintro e w' ⟨rfl, ⟨nd, rfl⟩⟩; refine ⟨_, rfl, ?_⟩) | ((with_reducible refine gate_callee (f := 25) rfl ?_); refine goesL_ (some 12) rfl rfl Try.func25 (by kernel_rfl) rfl #[.int .i64 8, .int .u64 a0, .int .u64 a1] rfl (by (try simp only [List.map_toArray, List.map_cons, List.map_nil]); first | done | rfl | (simp only [List.length_drop, List.length_take]; rfl)) ?_; (with_reducible refine (curtilagelaw09_do.calls k 8 a0 a1 t118 _ A4.out).mono ?_); rintro e w' ⟨rfl, ⟨nd, rfl⟩⟩; refine ⟨_, rfl, ?_⟩))
  (try simp only [Act.put, List.setIfInBounds_toArray, List.set_cons_zero, List.set_cons_succ])
  go_cut [51] (fun v51 wc => ∃ (kq : Nat) (x51_4 : Bool), v51 = .bool x51_4 ∧ Aside0 (curtilagelaw09_AluBack.j0 kq a0 x51_4 = some r) ∧ Aside0 (kq ≤ k) ∧ Drawn0 w wc)
  case first =>
    have H := HC5.out
    clear HC5
    replace H := Option.bind_eq_some_iff.mp H
    obtain ⟨t119, A60, H⟩ := H
    replace H : ((curtilagelaw09_do.f k 5 t119 a1).bind fun t120 => (if t120 = a0 then (if a1 = 0 then (if t117 = 18446744073709551615 then (curtilagelaw09_AluBack.j0 k a0 (t118 != a0)) else (curtilagelaw09_AluBack.j0 k a0 true)) else ((curtilagelaw09_do.f k 6 t117 a1).bind fun t121 => ((curtilagelaw09_do.f k 4 t121 t118).bind fun t122 => (if t122 = a0 then ((curtilagelaw09_do.f k 16 t118 a1).bind fun t123 => (if t123 = 1 then (curtilagelaw09_AluBack.j0 k a0 false) else (curtilagelaw09_AluBack.j0 k a0 true))) else (curtilagelaw09_AluBack.j0 k a0 true))))) else (curtilagelaw09_AluBack.j0 k a0 true))) = some r := H
    have A6 := Aside0.mk A60
    clear A60
    replace H := Option.bind_eq_some_iff.mp H
    obtain ⟨t120, A70, H⟩ := H
    replace H : (if t120 = a0 then (if a1 = 0 then (if t117 = 18446744073709551615 then (curtilagelaw09_AluBack.j0 k a0 (t118 != a0)) else (curtilagelaw09_AluBack.j0 k a0 true)) else ((curtilagelaw09_do.f k 6 t117 a1).bind fun t121 => ((curtilagelaw09_do.f k 4 t121 t118).bind fun t122 => (if t122 = a0 then ((curtilagelaw09_do.f k 16 t118 a1).bind fun t123 => (if t123 = 1 then (curtilagelaw09_AluBack.j0 k a0 false) else (curtilagelaw09_AluBack.j0 k a0 true))) else (curtilagelaw09_AluBack.j0 k a0 true))))) else (curtilagelaw09_AluBack.j0 k a0 true)) = some r := H
    have A7 := Aside0.mk A70
    clear A70
    by_cases c8 : t120 = a0
    · rw [if_pos c8] at H
      have c8b0 : (t120 == a0) = true := beq_iff_eq.mpr c8
      have c8b1 : (t120 != a0) = false := bne_eq_false_iff_eq.mpr c8
      clear c8
      (first | rw [c8b0] | (simp only [i64_w, i32_w]; rw [c8b0]) | skip)
      by_cases c9 : a1 = 0
      · rw [if_pos c9] at H
        have c9b0 : (a1 == 0) = true := beq_iff_eq.mpr c9
        have c9b1 : (a1 != 0) = false := bne_eq_false_iff_eq.mpr c9
        clear c9
        by_cases c10 : t117 = 18446744073709551615
        · rw [if_pos c10] at H
          have c10b0 : (t117 == 18446744073709551615) = true := beq_iff_eq.mpr c10
          have c10b1 : (t117 != 18446744073709551615) = false := bne_eq_false_iff_eq.mpr c10
          clear c10
          have H' := Aside0.mk H
          clear H
          go_wp2_with (first | ((with_reducible refine gate_callee (f := 25) rfl ?_); refine goesL_ (some 15) rfl rfl Try.func25 (by kernel_rfl) rfl #[.int .i64 4, .int .u64 a0, .int .u64 a1] rfl (by (try simp only [List.map_toArray, List.map_cons, List.map_nil]); first | done | rfl | (simp only [List.length_drop, List.length_take]; rfl)) ?_; (with_reducible refine (curtilagelaw09_do.calls k 4 a0 a1 t119 _ A6.out).mono ?_); rintro e w' ⟨rfl, ⟨nd, rfl⟩⟩; refine ⟨_, rfl, ?_⟩) | ((with_reducible refine gate_callee (f := 25) rfl ?_); refine goesL_ (some 17) rfl rfl Try.func25 (by kernel_rfl) rfl #[.int .i64 5, .int .u64 t119, .int .u64 a1] rfl (by (try simp only [List.map_toArray, List.map_cons, List.map_nil]); first | done | rfl | (simp only [List.length_drop, List.length_take]; rfl)) ?_; (with_reducible refine (curtilagelaw09_do.calls k 5 t119 a1 t120 _ A7.out).mono ?_); rintro e w' ⟨rfl, ⟨nd, rfl⟩⟩; refine ⟨_, rfl, ?_⟩))
          go_meet
          case rel => exact ⟨_, ((t118 != a0)), (by first | rfl | (simp; done) | (simp [*]; done)), H', ⟨by first | omega | exact Nat.le_refl _⟩, by repeat (first | exact Drawn0.refl _ | apply Drawn0.step)⟩
        · rw [if_neg c10] at H
          have c10b0 : (t117 == 18446744073709551615) = false := beq_eq_false_iff_ne.mpr c10
          have c10b1 : (t117 != 18446744073709551615) = true := bne_iff_ne.mpr c10
          have H' := Aside0.mk H
          clear H
          go_wp2_with (first | ((with_reducible refine gate_callee (f := 25) rfl ?_); refine goesL_ (some 15) rfl rfl Try.func25 (by kernel_rfl) rfl #[.int .i64 4, .int .u64 a0, .int .u64 a1] rfl (by (try simp only [List.map_toArray, List.map_cons, List.map_nil]); first | done | rfl | (simp only [List.length_drop, List.length_take]; rfl)) ?_; (with_reducible refine (curtilagelaw09_do.calls k 4 a0 a1 t119 _ A6.out).mono ?_); rintro e w' ⟨rfl, ⟨nd, rfl⟩⟩; refine ⟨_, rfl, ?_⟩) | ((with_reducible refine gate_callee (f := 25) rfl ?_); refine goesL_ (some 17) rfl rfl Try.func25 (by kernel_rfl) rfl #[.int .i64 5, .int .u64 t119, .int .u64 a1] rfl (by (try simp only [List.map_toArray, List.map_cons, List.map_nil]); first | done | rfl | (simp only [List.length_drop, List.length_take]; rfl)) ?_; (with_reducible refine (curtilagelaw09_do.calls k 5 t119 a1 t120 _ A7.out).mono ?_); rintro e w' ⟨rfl, ⟨nd, rfl⟩⟩; refine ⟨_, rfl, ?_⟩))
          go_meet
          case rel => exact ⟨_, (true), (by first | rfl | (simp; done) | (simp [*]; done)), H', ⟨by first | omega | exact Nat.le_refl _⟩, by repeat (first | exact Drawn0.refl _ | apply Drawn0.step)⟩
      · rw [if_neg c9] at H
        have c9b0 : (a1 == 0) = false := beq_eq_false_iff_ne.mpr c9
        have c9b1 : (a1 != 0) = true := bne_iff_ne.mpr c9
        replace H := Option.bind_eq_some_iff.mp H
        obtain ⟨t121, A110, H⟩ := H
        replace H : ((curtilagelaw09_do.f k 4 t121 t118).bind fun t122 => (if t122 = a0 then ((curtilagelaw09_do.f k 16 t118 a1).bind fun t123 => (if t123 = 1 then (curtilagelaw09_AluBack.j0 k a0 false) else (curtilagelaw09_AluBack.j0 k a0 true))) else (curtilagelaw09_AluBack.j0 k a0 true))) = some r := H
        have A11 := Aside0.mk A110
        clear A110
        replace H := Option.bind_eq_some_iff.mp H
        obtain ⟨t122, A120, H⟩ := H
        replace H : (if t122 = a0 then ((curtilagelaw09_do.f k 16 t118 a1).bind fun t123 => (if t123 = 1 then (curtilagelaw09_AluBack.j0 k a0 false) else (curtilagelaw09_AluBack.j0 k a0 true))) else (curtilagelaw09_AluBack.j0 k a0 true)) = some r := H
        have A12 := Aside0.mk A120
        clear A120
        by_cases c13 : t122 = a0
        · rw [if_pos c13] at H
          have c13b0 : (t122 == a0) = true := beq_iff_eq.mpr c13
          have c13b1 : (t122 != a0) = false := bne_eq_false_iff_eq.mpr c13
          clear c13
          replace H := Option.bind_eq_some_iff.mp H
          obtain ⟨t123, A140, H⟩ := H
          replace H : (if t123 = 1 then (curtilagelaw09_AluBack.j0 k a0 false) else (curtilagelaw09_AluBack.j0 k a0 true)) = some r := H
          have A14 := Aside0.mk A140
          clear A140
          by_cases c15 : t123 = 1
          · rw [if_pos c15] at H
            have c15b0 : (t123 == 1) = true := beq_iff_eq.mpr c15
            have c15b1 : (t123 != 1) = false := bne_eq_false_iff_eq.mpr c15
            clear c15
            have H' := Aside0.mk H
            clear H
            go_wp2_with (first | ((with_reducible refine gate_callee (f := 25) rfl ?_); refine goesL_ (some 15) rfl rfl Try.func25 (by kernel_rfl) rfl #[.int .i64 4, .int .u64 a0, .int .u64 a1] rfl (by (try simp only [List.map_toArray, List.map_cons, List.map_nil]); first | done | rfl | (simp only [List.length_drop, List.length_take]; rfl)) ?_; (with_reducible refine (curtilagelaw09_do.calls k 4 a0 a1 t119 _ A6.out).mono ?_); rintro e w' ⟨rfl, ⟨nd, rfl⟩⟩; refine ⟨_, rfl, ?_⟩) | ((with_reducible refine gate_callee (f := 25) rfl ?_); refine goesL_ (some 17) rfl rfl Try.func25 (by kernel_rfl) rfl #[.int .i64 5, .int .u64 t119, .int .u64 a1] rfl (by (try simp only [List.map_toArray, List.map_cons, List.map_nil]); first | done | rfl | (simp only [List.length_drop, List.length_take]; rfl)) ?_; (with_reducible refine (curtilagelaw09_do.calls k 5 t119 a1 t120 _ A7.out).mono ?_); rintro e w' ⟨rfl, ⟨nd, rfl⟩⟩; refine ⟨_, rfl, ?_⟩) | (go_at_call 25; (with_reducible refine (curtilagelaw09_do.calls k 6 t117 a1 t121 _ A11.out).mono ?_); rintro e w' ⟨rfl, ⟨nd, rfl⟩⟩) | (go_at_call 25; (with_reducible refine (curtilagelaw09_do.calls k 4 t121 t118 t122 _ A12.out).mono ?_); rintro e w' ⟨rfl, ⟨nd, rfl⟩⟩) | (go_at_call 25; (with_reducible refine (curtilagelaw09_do.calls k 16 t118 a1 t123 _ A14.out).mono ?_); rintro e w' ⟨rfl, ⟨nd, rfl⟩⟩))
            go_meet
            case rel => exact ⟨_, (false), (by first | rfl | (simp; done) | (simp [*]; done)), H', ⟨by first | omega | exact Nat.le_refl _⟩, by repeat (first | exact Drawn0.refl _ | apply Drawn0.step)⟩
          · rw [if_neg c15] at H
            have c15b0 : (t123 == 1) = false := beq_eq_false_iff_ne.mpr c15
            have c15b1 : (t123 != 1) = true := bne_iff_ne.mpr c15
            have H' := Aside0.mk H
            clear H
            go_wp2_with (first | ((with_reducible refine gate_callee (f := 25) rfl ?_); refine goesL_ (some 15) rfl rfl Try.func25 (by kernel_rfl) rfl #[.int .i64 4, .int .u64 a0, .int .u64 a1] rfl (by (try simp only [List.map_toArray, List.map_cons, List.map_nil]); first | done | rfl | (simp only [List.length_drop, List.length_take]; rfl)) ?_; (with_reducible refine (curtilagelaw09_do.calls k 4 a0 a1 t119 _ A6.out).mono ?_); rintro e w' ⟨rfl, ⟨nd, rfl⟩⟩; refine ⟨_, rfl, ?_⟩) | ((with_reducible refine gate_callee (f := 25) rfl ?_); refine goesL_ (some 17) rfl rfl Try.func25 (by kernel_rfl) rfl #[.int .i64 5, .int .u64 t119, .int .u64 a1] rfl (by (try simp only [List.map_toArray, List.map_cons, List.map_nil]); first | done | rfl | (simp only [List.length_drop, List.length_take]; rfl)) ?_; (with_reducible refine (curtilagelaw09_do.calls k 5 t119 a1 t120 _ A7.out).mono ?_); rintro e w' ⟨rfl, ⟨nd, rfl⟩⟩; refine ⟨_, rfl, ?_⟩) | (go_at_call 25; (with_reducible refine (curtilagelaw09_do.calls k 6 t117 a1 t121 _ A11.out).mono ?_); rintro e w' ⟨rfl, ⟨nd, rfl⟩⟩) | (go_at_call 25; (with_reducible refine (curtilagelaw09_do.calls k 4 t121 t118 t122 _ A12.out).mono ?_); rintro e w' ⟨rfl, ⟨nd, rfl⟩⟩) | (go_at_call 25; (with_reducible refine (curtilagelaw09_do.calls k 16 t118 a1 t123 _ A14.out).mono ?_); rintro e w' ⟨rfl, ⟨nd, rfl⟩⟩))
            go_meet
            case rel => exact ⟨_, (true), (by first | rfl | (simp; done) | (simp [*]; done)), H', ⟨by first | omega | exact Nat.le_refl _⟩, by repeat (first | exact Drawn0.refl _ | apply Drawn0.step)⟩
        · rw [if_neg c13] at H
          have c13b0 : (t122 == a0) = false := beq_eq_false_iff_ne.mpr c13
          have c13b1 : (t122 != a0) = true := bne_iff_ne.mpr c13
          have H' := Aside0.mk H
          clear H
          go_wp2_with (first | ((with_reducible refine gate_callee (f := 25) rfl ?_); refine goesL_ (some 15) rfl rfl Try.func25 (by kernel_rfl) rfl #[.int .i64 4, .int .u64 a0, .int .u64 a1] rfl (by (try simp only [List.map_toArray, List.map_cons, List.map_nil]); first | done | rfl | (simp only [List.length_drop, List.length_take]; rfl)) ?_; (with_reducible refine (curtilagelaw09_do.calls k 4 a0 a1 t119 _ A6.out).mono ?_); rintro e w' ⟨rfl, ⟨nd, rfl⟩⟩; refine ⟨_, rfl, ?_⟩) | ((with_reducible refine gate_callee (f := 25) rfl ?_); refine goesL_ (some 17) rfl rfl Try.func25 (by kernel_rfl) rfl #[.int .i64 5, .int .u64 t119, .int .u64 a1] rfl (by (try simp only [List.map_toArray, List.map_cons, List.map_nil]); first | done | rfl | (simp only [List.length_drop, List.length_take]; rfl)) ?_; (with_reducible refine (curtilagelaw09_do.calls k 5 t119 a1 t120 _ A7.out).mono ?_); rintro e w' ⟨rfl, ⟨nd, rfl⟩⟩; refine ⟨_, rfl, ?_⟩) | (go_at_call 25; (with_reducible refine (curtilagelaw09_do.calls k 6 t117 a1 t121 _ A11.out).mono ?_); rintro e w' ⟨rfl, ⟨nd, rfl⟩⟩) | (go_at_call 25; (with_reducible refine (curtilagelaw09_do.calls k 4 t121 t118 t122 _ A12.out).mono ?_); rintro e w' ⟨rfl, ⟨nd, rfl⟩⟩))
          go_meet
          case rel => exact ⟨_, (true), (by first | rfl | (simp; done) | (simp [*]; done)), H', ⟨by first | omega | exact Nat.le_refl _⟩, by repeat (first | exact Drawn0.refl _ | apply Drawn0.step)⟩
    · rw [if_neg c8] at H
      have c8b0 : (t120 == a0) = false := beq_eq_false_iff_ne.mpr c8
      have c8b1 : (t120 != a0) = true := bne_iff_ne.mpr c8
      (first | rw [c8b0] | (simp only [i64_w, i32_w]; rw [c8b0]) | skip)
      have H' := Aside0.mk H
      clear H
      go_wp2_with (first | ((with_reducible refine gate_callee (f := 25) rfl ?_); refine goesL_ (some 15) rfl rfl Try.func25 (by kernel_rfl) rfl #[.int .i64 4, .int .u64 a0, .int .u64 a1] rfl (by (try simp only [List.map_toArray, List.map_cons, List.map_nil]); first | done | rfl | (simp only [List.length_drop, List.length_take]; rfl)) ?_; (with_reducible refine (curtilagelaw09_do.calls k 4 a0 a1 t119 _ A6.out).mono ?_); rintro e w' ⟨rfl, ⟨nd, rfl⟩⟩; refine ⟨_, rfl, ?_⟩) | ((with_reducible refine gate_callee (f := 25) rfl ?_); refine goesL_ (some 17) rfl rfl Try.func25 (by kernel_rfl) rfl #[.int .i64 5, .int .u64 t119, .int .u64 a1] rfl (by (try simp only [List.map_toArray, List.map_cons, List.map_nil]); first | done | rfl | (simp only [List.length_drop, List.length_take]; rfl)) ?_; (with_reducible refine (curtilagelaw09_do.calls k 5 t119 a1 t120 _ A7.out).mono ?_); rintro e w' ⟨rfl, ⟨nd, rfl⟩⟩; refine ⟨_, rfl, ?_⟩))
      go_meet
      case rel => exact ⟨_, (true), (by first | rfl | (simp; done) | (simp [*]; done)), H', ⟨by first | omega | exact Nat.le_refl _⟩, by repeat (first | exact Drawn0.refl _ | apply Drawn0.step)⟩
  case rest =>
    clear HC5
    try clear c1
    try clear c2
    try clear p2
    try clear c8
    try clear c8b0
    try clear c8b1
    try clear c9
    try clear c9b0
    try clear c9b1
    try clear c10
    try clear c10b0
    try clear c10b1
    try clear c12
    try clear c13
    try clear c13b0
    try clear c13b1
    try clear c15
    try clear c15b0
    try clear c15b1
    obtain ⟨kq, x51_4, rfl, HA, HJ4, ⟨mc4, rfl⟩⟩ := hcut
    cases kq with
    | zero => exact absurd HA.out (by simp [curtilagelaw09_AluBack.j0])
    | succ kj4 =>
      have H := HA.out
      clear HA
      simp only [curtilagelaw09_AluBack.j0] at H
      by_cases c16 : x51_4 = true
      · subst c16
        have H1 : (some false) = some r := by rw [if_pos rfl] at H; exact H
        clear H
        have H := H1
        clear H1
        obtain rfl := Option.some.inj H
        go_wp2
        go_ret
        exact ⟨by first | rfl | (simp; done) | (simp [*]; done), by repeat (first | exact Drawn0.refl _ | apply Drawn0.step)⟩
      · replace c16 := Bool.eq_false_iff.mpr c16
        subst c16
        have H1 : ((alu_Extend.f (wrap32 ((a0) % 4294967296))).bind fun t124 => ((alu_Movh.f t124 (wrap32 ((a0 / 4294967296) % 4294967296))).bind fun t125 => (if t125 = a0 then ((curtilagelaw09_awake.f kj4).bind fun t126 => (some t126)) else (some false)))) = some r := by rw [if_neg (show ¬ (false = true) by decide)] at H; exact H
        clear H
        have H := H1
        clear H1
        replace H := Option.bind_eq_some_iff.mp H
        obtain ⟨t124, A170, H⟩ := H
        replace H : ((alu_Movh.f t124 (wrap32 ((a0 / 4294967296) % 4294967296))).bind fun t125 => (if t125 = a0 then ((curtilagelaw09_awake.f kj4).bind fun t126 => (some t126)) else (some false))) = some r := H
        have A17 := Aside0.mk A170
        clear A170
        replace H := Option.bind_eq_some_iff.mp H
        obtain ⟨t125, A180, H⟩ := H
        replace H : (if t125 = a0 then ((curtilagelaw09_awake.f kj4).bind fun t126 => (some t126)) else (some false)) = some r := H
        have A18 := Aside0.mk A180
        clear A180
        by_cases c19 : t125 = a0
        · rw [if_pos c19] at H
          have c19b0 : (t125 == a0) = true := beq_iff_eq.mpr c19
          have c19b1 : (t125 != a0) = false := bne_eq_false_iff_eq.mpr c19
          clear c19
          replace H := Option.bind_eq_some_iff.mp H
          obtain ⟨t126, A200, H⟩ := H
          replace H : (some t126) = some r := H
          have A20 := Aside0.mk A200
          clear A200
          obtain rfl := Option.some.inj H
          go_wp2_with (first | ((with_reducible refine gate_callee (f := 33) rfl ?_); refine goesL_ (some 55) rfl rfl Try.func33 (by kernel_rfl) rfl #[.int .i32 (wrap32 ((a0) % 4294967296))] rfl (by (try simp only [List.map_toArray, List.map_cons, List.map_nil]); first | done | rfl | (simp only [List.length_drop, List.length_take]; rfl)) ?_; (with_reducible refine (alu_Extend.calls (wrap32 ((a0) % 4294967296)) t124 _ A17.out).mono ?_); rintro e w' ⟨rfl, ⟨nd, rfl⟩⟩; refine ⟨_, rfl, ?_⟩) | ((with_reducible refine gate_callee (f := 31) rfl ?_); refine goesL_ (some 60) rfl rfl Try.func31 (by kernel_rfl) rfl #[.int .u64 t124, .int .i32 (wrap32 ((a0 / 4294967296) % 4294967296))] rfl (by (try simp only [List.map_toArray, List.map_cons, List.map_nil]); first | done | rfl | (simp only [List.length_drop, List.length_take]; rfl)) ?_; (with_reducible refine (alu_Movh.calls t124 (wrap32 ((a0 / 4294967296) % 4294967296)) t125 _ A18.out).mono ?_); rintro e w' ⟨rfl, ⟨nd, rfl⟩⟩; refine ⟨_, rfl, ?_⟩) | (go_at_call 26; (with_reducible refine (curtilagelaw09_awake.calls kj4  t126 _ A20.out).mono ?_); rintro e w' ⟨rfl, ⟨nd, rfl⟩⟩))
          go_ret
          exact ⟨by first | rfl | (simp; done) | (simp [*]; done), by repeat (first | exact Drawn0.refl _ | apply Drawn0.step)⟩
        · rw [if_neg c19] at H
          have c19b0 : (t125 == a0) = false := beq_eq_false_iff_ne.mpr c19
          have c19b1 : (t125 != a0) = true := bne_iff_ne.mpr c19
          obtain rfl := Option.some.inj H
          go_wp2_with (first | ((with_reducible refine gate_callee (f := 33) rfl ?_); refine goesL_ (some 55) rfl rfl Try.func33 (by kernel_rfl) rfl #[.int .i32 (wrap32 ((a0) % 4294967296))] rfl (by (try simp only [List.map_toArray, List.map_cons, List.map_nil]); first | done | rfl | (simp only [List.length_drop, List.length_take]; rfl)) ?_; (with_reducible refine (alu_Extend.calls (wrap32 ((a0) % 4294967296)) t124 _ A17.out).mono ?_); rintro e w' ⟨rfl, ⟨nd, rfl⟩⟩; refine ⟨_, rfl, ?_⟩) | ((with_reducible refine gate_callee (f := 31) rfl ?_); refine goesL_ (some 60) rfl rfl Try.func31 (by kernel_rfl) rfl #[.int .u64 t124, .int .i32 (wrap32 ((a0 / 4294967296) % 4294967296))] rfl (by (try simp only [List.map_toArray, List.map_cons, List.map_nil]); first | done | rfl | (simp only [List.length_drop, List.length_take]; rfl)) ?_; (with_reducible refine (alu_Movh.calls t124 (wrap32 ((a0 / 4294967296) % 4294967296)) t125 _ A18.out).mono ?_); rintro e w' ⟨rfl, ⟨nd, rfl⟩⟩; refine ⟨_, rfl, ?_⟩))
          go_ret
          exact ⟨by first | rfl | (simp; done) | (simp [*]; done), by repeat (first | exact Drawn0.refl _ | apply Drawn0.step)⟩

/-- THE ONE PURE STATEMENT of curtilagelaw09_AluBack: yours. -/
def curtilagelaw09_AluBack.Pure : Prop := ∀ (a0 : Int) (a1 : Int), (Lit.int .u64 a0).wf = true → (Lit.int .u64 a1).wf = true → ∃ k, curtilagelaw09_AluBack.f k a0 a1 = some true
theorem curtilagelaw09_AluBack.walk (P : curtilagelaw09_AluBack.Pure) (a0 : Int) (a1 : Int) (w : World) (w0 : (Lit.int .u64 a0).wf = true) (w1 : (Lit.int .u64 a1).wf = true) :
    Calls Try.prog 12 #[.int .u64 a0, .int .u64 a1] w fun e w' => e = .returned (.bool true) ∧ Below w.heap.size w w' := by
  obtain ⟨k, h⟩ := P a0 a1 w0 w1
  refine (curtilagelaw09_AluBack.calls k a0 a1 true w h).mono ?_
  rintro e w' ⟨rfl, hd⟩
  exact ⟨rfl, hd.below⟩

end Go.Proofs.Ytnocdfajeanmdaa.PAluBack
