-- PRINTED BY print.sh 35421559b90ae4d0a3588c463048766b98c2df88dd9212a6774a882060cdf62d: not written by this session
import Derived.Test.YtnocdfajeanmdaaPAluOrdersx0
import Derived.Test.YtnocdfajeanmdaaPAluOrdersx1
namespace Go.Proofs.Ytnocdfajeanmdaa.PAluOrders
open Go.RowKit Go.Proofs.YtnocdfajeanmdaaW.PrintWords Go.Proofs.YtnocdfajeanmdaaW.PrintLast Go.Proofs.YtnocdfajeanmdaaW.PrintMore
attribute [local go_sem] max2_int min2_int max_two min_two max_three min_three max_four min_four   -- for this text's walks alone
set_option linter.unusedVariables false
set_option linter.unusedSimpArgs false

/-! ### curtilagelaw09_AluOrders: function 8 -/
mutual
def curtilagelaw09_AluOrders.j0 : Nat → Int → Int → Bool → Option (Bool)
  | 0, _, _, _ => none
  | k + 1, x0, x1, x32 => if x32 = true then (some false) else ((curtilagelaw09_do.f k 17 x0 x1).bind fun t123 => ((curtilagelaw09_do.f k 11 x0 9223372036854775808).bind fun t124 => ((curtilagelaw09_do.f k 11 x1 9223372036854775808).bind fun t125 => ((curtilagelaw09_do.f k 16 t124 t125).bind fun t126 => (if t123 = t126 then ((curtilagelaw09_do.f k 9 x0 x1).bind fun t127 => ((curtilagelaw09_do.f k 10 x0 x1).bind fun t128 => ((curtilagelaw09_do.f k 4 t127 t128).bind fun t129 => ((curtilagelaw09_do.f k 4 x0 x1).bind fun t130 => (if t129 = t130 then ((curtilagelaw09_do.f k 11 x0 x1).bind fun t131 => ((curtilagelaw09_do.f k 11 t131 x1).bind fun t132 => (curtilagelaw09_AluOrders.j1 k x0 x1 (t132 != x0)))) else (curtilagelaw09_AluOrders.j1 k x0 x1 true)))))) else (some false))))))
def curtilagelaw09_AluOrders.j1 : Nat → Int → Int → Bool → Option (Bool)
  | 0, _, _, _ => none
  | k + 1, x0, x1, x63 => if x63 = true then (some false) else ((curtilagelaw09_do.f k 9 x1 63).bind fun t133 => ((curtilagelaw09_do.f k 12 x0 x1).bind fun t134 => ((curtilagelaw09_do.f k 12 1 t133).bind fun t135 => ((curtilagelaw09_do.f k 6 x0 t135).bind fun t136 => (if t134 = t136 then ((curtilagelaw09_do.f k 13 x0 x1).bind fun t137 => ((curtilagelaw09_do.f k 12 1 t133).bind fun t138 => ((curtilagelaw09_do.f k 7 x0 t138).bind fun t139 => (if t137 = t139 then ((curtilagelaw09_awake.f k).bind fun t140 => (some t140)) else (some false))))) else (some false))))))
end
def curtilagelaw09_AluOrders.f (k : Nat) (a0 : Int) (a1 : Int) : Option (Bool) := (curtilagelaw09_do.f k 16 a0 a1).bind fun t117 => ((curtilagelaw09_do.f k 16 a1 a0).bind fun t118 => ((curtilagelaw09_do.f k 15 a0 a1).bind fun t119 => (if (IntKind.u64.wrap ((IntKind.u64.wrap (t117 + t118)) + t119)) = 1 then ((curtilagelaw09_do.f k 17 a0 a1).bind fun t120 => ((curtilagelaw09_do.f k 17 a1 a0).bind fun t121 => ((curtilagelaw09_do.f k 15 a0 a1).bind fun t122 => (curtilagelaw09_AluOrders.j0 k a0 a1 ((IntKind.u64.wrap ((IntKind.u64.wrap (t120 + t121)) + t122)) != 1))))) else (curtilagelaw09_AluOrders.j0 k a0 a1 true))))
theorem curtilagelaw09_AluOrders.mono_l : ∀ k, (∀ y0 y1 y2, LeO (curtilagelaw09_AluOrders.j0 k y0 y1 y2) (curtilagelaw09_AluOrders.j0 (k + 1) y0 y1 y2)) ∧ (∀ y0 y1 y2, LeO (curtilagelaw09_AluOrders.j1 k y0 y1 y2) (curtilagelaw09_AluOrders.j1 (k + 1) y0 y1 y2))
  | 0 => ⟨fun _ _ _ r h => by simp [curtilagelaw09_AluOrders.j0] at h, fun _ _ _ r h => by simp [curtilagelaw09_AluOrders.j1] at h⟩
  | k + 1 => by
    obtain ⟨ih0, ih1⟩ := curtilagelaw09_AluOrders.mono_l k
    refine ⟨?_, ?_⟩
    · intro y0 y1 y2
      unfold curtilagelaw09_AluOrders.j0
      repeat' first
      | (with_reducible exact ih0 _ _ _)
      | (with_reducible exact ih1 _ _ _)
      | (with_reducible exact curtilagelaw09_awake.mono _)
      | (with_reducible exact curtilagelaw09_do.mono _ _ _ _)
      | (with_reducible exact LeO.refl _)
      | (with_reducible exact LeO.none _)
      | (with_reducible refine LeO.ite ?_ ?_)
      | (with_reducible refine LeO.bind ?_ (fun _ => ?_))
      | exact ih0 _ _ _
      | exact ih1 _ _ _
      | exact curtilagelaw09_awake.mono _
      | exact curtilagelaw09_do.mono _ _ _ _
      | exact LeO.none _
      | refine LeO.ite ?_ ?_
      | refine LeO.bind ?_ (fun _ => ?_)
    · intro y0 y1 y2
      unfold curtilagelaw09_AluOrders.j1
      repeat' first
      | (with_reducible exact ih0 _ _ _)
      | (with_reducible exact ih1 _ _ _)
      | (with_reducible exact curtilagelaw09_awake.mono _)
      | (with_reducible exact curtilagelaw09_do.mono _ _ _ _)
      | (with_reducible exact LeO.refl _)
      | (with_reducible exact LeO.none _)
      | (with_reducible refine LeO.ite ?_ ?_)
      | (with_reducible refine LeO.bind ?_ (fun _ => ?_))
      | exact ih0 _ _ _
      | exact ih1 _ _ _
      | exact curtilagelaw09_awake.mono _
      | exact curtilagelaw09_do.mono _ _ _ _
      | exact LeO.none _
      | refine LeO.ite ?_ ?_
      | refine LeO.bind ?_ (fun _ => ?_)
theorem curtilagelaw09_AluOrders.mono : ∀ a0 a1 k, LeO (curtilagelaw09_AluOrders.f k a0 a1) (curtilagelaw09_AluOrders.f (k + 1) a0 a1) := by
  intro a0 a1 k
  obtain ⟨ih0, ih1⟩ := curtilagelaw09_AluOrders.mono_l k
  unfold curtilagelaw09_AluOrders.f
  repeat' first
      | (with_reducible exact ih0 _ _ _)
      | (with_reducible exact ih1 _ _ _)
      | (with_reducible exact curtilagelaw09_awake.mono _)
      | (with_reducible exact curtilagelaw09_do.mono _ _ _ _)
      | (with_reducible exact LeO.refl _)
      | (with_reducible exact LeO.none _)
      | (with_reducible refine LeO.ite ?_ ?_)
      | (with_reducible refine LeO.bind ?_ (fun _ => ?_))
      | exact ih0 _ _ _
      | exact ih1 _ _ _
      | exact curtilagelaw09_awake.mono _
      | exact curtilagelaw09_do.mono _ _ _ _
      | exact LeO.none _
      | refine LeO.ite ?_ ?_
      | refine LeO.bind ?_ (fun _ => ?_)
set_option maxHeartbeats 8000000 in
set_option maxRecDepth 100000 in
theorem curtilagelaw09_AluOrders.calls (k : Nat) (a0 : Int) (a1 : Int) (r : Bool) (w : World) (h : curtilagelaw09_AluOrders.f k a0 a1 = some r) :
    Calls Try.prog 8 #[.int .u64 a0, .int .u64 a1] w fun e w' => e = .returned (.bool r) ∧ Drawn0 w w' := by
  have H : ((curtilagelaw09_do.f k 16 a0 a1).bind fun t117 => ((curtilagelaw09_do.f k 16 a1 a0).bind fun t118 => ((curtilagelaw09_do.f k 15 a0 a1).bind fun t119 => (if (IntKind.u64.wrap ((IntKind.u64.wrap (t117 + t118)) + t119)) = 1 then ((curtilagelaw09_do.f k 17 a0 a1).bind fun t120 => ((curtilagelaw09_do.f k 17 a1 a0).bind fun t121 => ((curtilagelaw09_do.f k 15 a0 a1).bind fun t122 => (curtilagelaw09_AluOrders.j0 k a0 a1 ((IntKind.u64.wrap ((IntKind.u64.wrap (t120 + t121)) + t122)) != 1))))) else (curtilagelaw09_AluOrders.j0 k a0 a1 true))))) = some r := h
  clear h
  have HC3 := Aside0.mk H
  clear H
  go_enter Try.func8, Try.ntmps8
  go_upto_region 1 with (fail)
  go_cut [32] (fun v32 wc => ∃ (kq : Nat) (x32_2 : Bool), v32 = .bool x32_2 ∧ Aside0 (curtilagelaw09_AluOrders.j0 kq a0 a1 x32_2 = some r) ∧ Aside0 (kq ≤ k) ∧ Drawn0 w wc)
  case first =>
    have H := HC3.out
    clear HC3
    replace H := Option.bind_eq_some_iff.mp H
    obtain ⟨t117, A40, H⟩ := H
    replace H : ((curtilagelaw09_do.f k 16 a1 a0).bind fun t118 => ((curtilagelaw09_do.f k 15 a0 a1).bind fun t119 => (if (IntKind.u64.wrap ((IntKind.u64.wrap (t117 + t118)) + t119)) = 1 then ((curtilagelaw09_do.f k 17 a0 a1).bind fun t120 => ((curtilagelaw09_do.f k 17 a1 a0).bind fun t121 => ((curtilagelaw09_do.f k 15 a0 a1).bind fun t122 => (curtilagelaw09_AluOrders.j0 k a0 a1 ((IntKind.u64.wrap ((IntKind.u64.wrap (t120 + t121)) + t122)) != 1))))) else (curtilagelaw09_AluOrders.j0 k a0 a1 true)))) = some r := H
    have A4 := Aside0.mk A40
    clear A40
    replace H := Option.bind_eq_some_iff.mp H
    obtain ⟨t118, A50, H⟩ := H
    replace H : ((curtilagelaw09_do.f k 15 a0 a1).bind fun t119 => (if (IntKind.u64.wrap ((IntKind.u64.wrap (t117 + t118)) + t119)) = 1 then ((curtilagelaw09_do.f k 17 a0 a1).bind fun t120 => ((curtilagelaw09_do.f k 17 a1 a0).bind fun t121 => ((curtilagelaw09_do.f k 15 a0 a1).bind fun t122 => (curtilagelaw09_AluOrders.j0 k a0 a1 ((IntKind.u64.wrap ((IntKind.u64.wrap (t120 + t121)) + t122)) != 1))))) else (curtilagelaw09_AluOrders.j0 k a0 a1 true))) = some r := H
    have A5 := Aside0.mk A50
    clear A50
    replace H := Option.bind_eq_some_iff.mp H
    obtain ⟨t119, A60, H⟩ := H
    replace H : (if (IntKind.u64.wrap ((IntKind.u64.wrap (t117 + t118)) + t119)) = 1 then ((curtilagelaw09_do.f k 17 a0 a1).bind fun t120 => ((curtilagelaw09_do.f k 17 a1 a0).bind fun t121 => ((curtilagelaw09_do.f k 15 a0 a1).bind fun t122 => (curtilagelaw09_AluOrders.j0 k a0 a1 ((IntKind.u64.wrap ((IntKind.u64.wrap (t120 + t121)) + t122)) != 1))))) else (curtilagelaw09_AluOrders.j0 k a0 a1 true)) = some r := H
    have A6 := Aside0.mk A60
    clear A60
    by_cases c7 : (IntKind.u64.wrap ((IntKind.u64.wrap (t117 + t118)) + t119)) = 1
    · rw [if_pos c7] at H
      have c7b0 : ((IntKind.u64.wrap ((IntKind.u64.wrap (t117 + t118)) + t119)) == 1) = true := beq_iff_eq.mpr c7
      have c7b1 : ((IntKind.u64.wrap ((IntKind.u64.wrap (t117 + t118)) + t119)) != 1) = false := bne_eq_false_iff_eq.mpr c7
      clear c7
      (first | rw [c7b0] | (simp only [i64_w, i32_w]; rw [c7b0]) | skip)
      replace H := Option.bind_eq_some_iff.mp H
      obtain ⟨t120, A80, H⟩ := H
      replace H : ((curtilagelaw09_do.f k 17 a1 a0).bind fun t121 => ((curtilagelaw09_do.f k 15 a0 a1).bind fun t122 => (curtilagelaw09_AluOrders.j0 k a0 a1 ((IntKind.u64.wrap ((IntKind.u64.wrap (t120 + t121)) + t122)) != 1)))) = some r := H
      have A8 := Aside0.mk A80
      clear A80
      replace H := Option.bind_eq_some_iff.mp H
      obtain ⟨t121, A90, H⟩ := H
      replace H : ((curtilagelaw09_do.f k 15 a0 a1).bind fun t122 => (curtilagelaw09_AluOrders.j0 k a0 a1 ((IntKind.u64.wrap ((IntKind.u64.wrap (t120 + t121)) + t122)) != 1))) = some r := H
      have A9 := Aside0.mk A90
      clear A90
      replace H := Option.bind_eq_some_iff.mp H
      obtain ⟨t122, A100, H⟩ := H
      replace H : (curtilagelaw09_AluOrders.j0 k a0 a1 ((IntKind.u64.wrap ((IntKind.u64.wrap (t120 + t121)) + t122)) != 1)) = some r := H
      have A10 := Aside0.mk A100
      clear A100
      have H' := Aside0.mk H
      clear H
      go_wp2_with (first | ((with_reducible refine gate_callee (f := 25) rfl ?_); refine goesL_ (some 9) rfl rfl Try.func25 (by kernel_rfl) rfl #[.int .i64 16, .int .u64 a0, .int .u64 a1] rfl (by (try simp only [List.map_toArray, List.map_cons, List.map_nil]); first | done | rfl | (simp only [List.length_drop, List.length_take]; rfl)) ?_; (with_reducible refine (curtilagelaw09_do.calls k 16 a0 a1 t117 _ A4.out).mono ?_); rintro e w' ⟨rfl, ⟨nd, rfl⟩⟩; refine ⟨_, rfl, ?_⟩) | ((with_reducible refine gate_callee (f := 25) rfl ?_); refine goesL_ (some 12) rfl rfl Try.func25 (by kernel_rfl) rfl #[.int .i64 16, .int .u64 a1, .int .u64 a0] rfl (by (try simp only [List.map_toArray, List.map_cons, List.map_nil]); first | done | rfl | (simp only [List.length_drop, List.length_take]; rfl)) ?_; (with_reducible refine (curtilagelaw09_do.calls k 16 a1 a0 t118 _ A5.out).mono ?_); rintro e w' ⟨rfl, ⟨nd, rfl⟩⟩; refine ⟨_, rfl, ?_⟩) | ((with_reducible refine gate_callee (f := 25) rfl ?_); refine goesL_ (some 16) rfl rfl Try.func25 (by kernel_rfl) rfl #[.int .i64 15, .int .u64 a0, .int .u64 a1] rfl (by (try simp only [List.map_toArray, List.map_cons, List.map_nil]); first | done | rfl | (simp only [List.length_drop, List.length_take]; rfl)) ?_; (with_reducible refine (curtilagelaw09_do.calls k 15 a0 a1 t119 _ A6.out).mono ?_); rintro e w' ⟨rfl, ⟨nd, rfl⟩⟩; refine ⟨_, rfl, ?_⟩) | (go_at_call 25; (with_reducible refine (curtilagelaw09_do.calls k 17 a0 a1 t120 _ A8.out).mono ?_); rintro e w' ⟨rfl, ⟨nd, rfl⟩⟩) | (go_at_call 25; (with_reducible refine (curtilagelaw09_do.calls k 17 a1 a0 t121 _ A9.out).mono ?_); rintro e w' ⟨rfl, ⟨nd, rfl⟩⟩) | (go_at_call 25; (with_reducible refine (curtilagelaw09_do.calls k 15 a0 a1 t122 _ A10.out).mono ?_); rintro e w' ⟨rfl, ⟨nd, rfl⟩⟩))
      go_meet
      case rel => exact ⟨_, (((IntKind.u64.wrap ((IntKind.u64.wrap (t120 + t121)) + t122)) != 1)), (by first | rfl | (simp; done) | (simp [*]; done)), H', ⟨by first | omega | exact Nat.le_refl _⟩, by repeat (first | exact Drawn0.refl _ | apply Drawn0.step)⟩
    · rw [if_neg c7] at H
      have c7b0 : ((IntKind.u64.wrap ((IntKind.u64.wrap (t117 + t118)) + t119)) == 1) = false := beq_eq_false_iff_ne.mpr c7
      have c7b1 : ((IntKind.u64.wrap ((IntKind.u64.wrap (t117 + t118)) + t119)) != 1) = true := bne_iff_ne.mpr c7
      (first | rw [c7b0] | (simp only [i64_w, i32_w]; rw [c7b0]) | skip)
      have H' := Aside0.mk H
      clear H
      go_wp2_with (first | ((with_reducible refine gate_callee (f := 25) rfl ?_); refine goesL_ (some 9) rfl rfl Try.func25 (by kernel_rfl) rfl #[.int .i64 16, .int .u64 a0, .int .u64 a1] rfl (by (try simp only [List.map_toArray, List.map_cons, List.map_nil]); first | done | rfl | (simp only [List.length_drop, List.length_take]; rfl)) ?_; (with_reducible refine (curtilagelaw09_do.calls k 16 a0 a1 t117 _ A4.out).mono ?_); rintro e w' ⟨rfl, ⟨nd, rfl⟩⟩; refine ⟨_, rfl, ?_⟩) | ((with_reducible refine gate_callee (f := 25) rfl ?_); refine goesL_ (some 12) rfl rfl Try.func25 (by kernel_rfl) rfl #[.int .i64 16, .int .u64 a1, .int .u64 a0] rfl (by (try simp only [List.map_toArray, List.map_cons, List.map_nil]); first | done | rfl | (simp only [List.length_drop, List.length_take]; rfl)) ?_; (with_reducible refine (curtilagelaw09_do.calls k 16 a1 a0 t118 _ A5.out).mono ?_); rintro e w' ⟨rfl, ⟨nd, rfl⟩⟩; refine ⟨_, rfl, ?_⟩) | ((with_reducible refine gate_callee (f := 25) rfl ?_); refine goesL_ (some 16) rfl rfl Try.func25 (by kernel_rfl) rfl #[.int .i64 15, .int .u64 a0, .int .u64 a1] rfl (by (try simp only [List.map_toArray, List.map_cons, List.map_nil]); first | done | rfl | (simp only [List.length_drop, List.length_take]; rfl)) ?_; (with_reducible refine (curtilagelaw09_do.calls k 15 a0 a1 t119 _ A6.out).mono ?_); rintro e w' ⟨rfl, ⟨nd, rfl⟩⟩; refine ⟨_, rfl, ?_⟩))
      go_meet
      case rel => exact ⟨_, (true), (by first | rfl | (simp; done) | (simp [*]; done)), H', ⟨by first | omega | exact Nat.le_refl _⟩, by repeat (first | exact Drawn0.refl _ | apply Drawn0.step)⟩
  case rest =>
    clear HC3
    try clear c2
    try clear p2
    try clear c7
    try clear c7b0
    try clear c7b1
    try clear c8
    obtain ⟨kq, x32_2, rfl, HA, HJ2, ⟨mc2, rfl⟩⟩ := hcut
    cases kq with
    | zero => exact absurd HA.out (by simp [curtilagelaw09_AluOrders.j0])
    | succ kj2 =>
      have H := HA.out
      clear HA
      simp only [curtilagelaw09_AluOrders.j0] at H
      by_cases c11 : x32_2 = true
      · subst c11
        have H1 : (some false) = some r := by rw [if_pos rfl] at H; exact H
        clear H
        have H := H1
        clear H1
        obtain rfl := Option.some.inj H
        go_wp2
        go_ret
        exact ⟨by first | rfl | (simp; done) | (simp [*]; done), by repeat (first | exact Drawn0.refl _ | apply Drawn0.step)⟩
      · replace c11 := Bool.eq_false_iff.mpr c11
        subst c11
        have H1 : ((curtilagelaw09_do.f kj2 17 a0 a1).bind fun t123 => ((curtilagelaw09_do.f kj2 11 a0 9223372036854775808).bind fun t124 => ((curtilagelaw09_do.f kj2 11 a1 9223372036854775808).bind fun t125 => ((curtilagelaw09_do.f kj2 16 t124 t125).bind fun t126 => (if t123 = t126 then ((curtilagelaw09_do.f kj2 9 a0 a1).bind fun t127 => ((curtilagelaw09_do.f kj2 10 a0 a1).bind fun t128 => ((curtilagelaw09_do.f kj2 4 t127 t128).bind fun t129 => ((curtilagelaw09_do.f kj2 4 a0 a1).bind fun t130 => (if t129 = t130 then ((curtilagelaw09_do.f kj2 11 a0 a1).bind fun t131 => ((curtilagelaw09_do.f kj2 11 t131 a1).bind fun t132 => (curtilagelaw09_AluOrders.j1 kj2 a0 a1 (t132 != a0)))) else (curtilagelaw09_AluOrders.j1 kj2 a0 a1 true)))))) else (some false)))))) = some r := by rw [if_neg (show ¬ (false = true) by decide)] at H; exact H
        clear H
        have H := H1
        clear H1
        replace H := Option.bind_eq_some_iff.mp H
        obtain ⟨t123, A120, H⟩ := H
        replace H : ((curtilagelaw09_do.f kj2 11 a0 9223372036854775808).bind fun t124 => ((curtilagelaw09_do.f kj2 11 a1 9223372036854775808).bind fun t125 => ((curtilagelaw09_do.f kj2 16 t124 t125).bind fun t126 => (if t123 = t126 then ((curtilagelaw09_do.f kj2 9 a0 a1).bind fun t127 => ((curtilagelaw09_do.f kj2 10 a0 a1).bind fun t128 => ((curtilagelaw09_do.f kj2 4 t127 t128).bind fun t129 => ((curtilagelaw09_do.f kj2 4 a0 a1).bind fun t130 => (if t129 = t130 then ((curtilagelaw09_do.f kj2 11 a0 a1).bind fun t131 => ((curtilagelaw09_do.f kj2 11 t131 a1).bind fun t132 => (curtilagelaw09_AluOrders.j1 kj2 a0 a1 (t132 != a0)))) else (curtilagelaw09_AluOrders.j1 kj2 a0 a1 true)))))) else (some false))))) = some r := H
        have A12 := Aside0.mk A120
        clear A120
        replace H := Option.bind_eq_some_iff.mp H
        obtain ⟨t124, A130, H⟩ := H
        replace H : ((curtilagelaw09_do.f kj2 11 a1 9223372036854775808).bind fun t125 => ((curtilagelaw09_do.f kj2 16 t124 t125).bind fun t126 => (if t123 = t126 then ((curtilagelaw09_do.f kj2 9 a0 a1).bind fun t127 => ((curtilagelaw09_do.f kj2 10 a0 a1).bind fun t128 => ((curtilagelaw09_do.f kj2 4 t127 t128).bind fun t129 => ((curtilagelaw09_do.f kj2 4 a0 a1).bind fun t130 => (if t129 = t130 then ((curtilagelaw09_do.f kj2 11 a0 a1).bind fun t131 => ((curtilagelaw09_do.f kj2 11 t131 a1).bind fun t132 => (curtilagelaw09_AluOrders.j1 kj2 a0 a1 (t132 != a0)))) else (curtilagelaw09_AluOrders.j1 kj2 a0 a1 true)))))) else (some false)))) = some r := H
        have A13 := Aside0.mk A130
        clear A130
        replace H := Option.bind_eq_some_iff.mp H
        obtain ⟨t125, A140, H⟩ := H
        replace H : ((curtilagelaw09_do.f kj2 16 t124 t125).bind fun t126 => (if t123 = t126 then ((curtilagelaw09_do.f kj2 9 a0 a1).bind fun t127 => ((curtilagelaw09_do.f kj2 10 a0 a1).bind fun t128 => ((curtilagelaw09_do.f kj2 4 t127 t128).bind fun t129 => ((curtilagelaw09_do.f kj2 4 a0 a1).bind fun t130 => (if t129 = t130 then ((curtilagelaw09_do.f kj2 11 a0 a1).bind fun t131 => ((curtilagelaw09_do.f kj2 11 t131 a1).bind fun t132 => (curtilagelaw09_AluOrders.j1 kj2 a0 a1 (t132 != a0)))) else (curtilagelaw09_AluOrders.j1 kj2 a0 a1 true)))))) else (some false))) = some r := H
        have A14 := Aside0.mk A140
        clear A140
        replace H := Option.bind_eq_some_iff.mp H
        obtain ⟨t126, A150, H⟩ := H
        replace H : (if t123 = t126 then ((curtilagelaw09_do.f kj2 9 a0 a1).bind fun t127 => ((curtilagelaw09_do.f kj2 10 a0 a1).bind fun t128 => ((curtilagelaw09_do.f kj2 4 t127 t128).bind fun t129 => ((curtilagelaw09_do.f kj2 4 a0 a1).bind fun t130 => (if t129 = t130 then ((curtilagelaw09_do.f kj2 11 a0 a1).bind fun t131 => ((curtilagelaw09_do.f kj2 11 t131 a1).bind fun t132 => (curtilagelaw09_AluOrders.j1 kj2 a0 a1 (t132 != a0)))) else (curtilagelaw09_AluOrders.j1 kj2 a0 a1 true)))))) else (some false)) = some r := H
        have A15 := Aside0.mk A150
        clear A150
        by_cases c16 : t123 = t126
        · rw [if_pos c16] at H
          have c16b0 : (t123 == t126) = true := beq_iff_eq.mpr c16
          have c16b1 : (t123 != t126) = false := bne_eq_false_iff_eq.mpr c16
          clear c16
          have HC17 := Aside0.mk H
          clear H
          go_upto_region 6 with (first | ((with_reducible refine gate_callee (f := 25) rfl ?_); refine goesL_ (some 35) rfl rfl Try.func25 (by kernel_rfl) rfl #[.int .i64 17, .int .u64 a0, .int .u64 a1] rfl (by (try simp only [List.map_toArray, List.map_cons, List.map_nil]); first | done | rfl | (simp only [List.length_drop, List.length_take]; rfl)) ?_; (with_reducible refine (curtilagelaw09_do.calls kj2 17 a0 a1 t123 _ A12.out).mono ?_); rintro e w' ⟨rfl, ⟨nd, rfl⟩⟩; refine ⟨_, rfl, ?_⟩) | ((with_reducible refine gate_callee (f := 25) rfl ?_); refine goesL_ (some 38) rfl rfl Try.func25 (by kernel_rfl) rfl #[.int .i64 11, .int .u64 a0, .int .u64 9223372036854775808] rfl (by (try simp only [List.map_toArray, List.map_cons, List.map_nil]); first | done | rfl | (simp only [List.length_drop, List.length_take]; rfl)) ?_; (with_reducible refine (curtilagelaw09_do.calls kj2 11 a0 9223372036854775808 t124 _ A13.out).mono ?_); rintro e w' ⟨rfl, ⟨nd, rfl⟩⟩; refine ⟨_, rfl, ?_⟩) | ((with_reducible refine gate_callee (f := 25) rfl ?_); refine goesL_ (some 41) rfl rfl Try.func25 (by kernel_rfl) rfl #[.int .i64 11, .int .u64 a1, .int .u64 9223372036854775808] rfl (by (try simp only [List.map_toArray, List.map_cons, List.map_nil]); first | done | rfl | (simp only [List.length_drop, List.length_take]; rfl)) ?_; (with_reducible refine (curtilagelaw09_do.calls kj2 11 a1 9223372036854775808 t125 _ A14.out).mono ?_); rintro e w' ⟨rfl, ⟨nd, rfl⟩⟩; refine ⟨_, rfl, ?_⟩) | ((with_reducible refine gate_callee (f := 25) rfl ?_); refine goesL_ (some 42) rfl rfl Try.func25 (by kernel_rfl) rfl #[.int .i64 16, .int .u64 t124, .int .u64 t125] rfl (by (try simp only [List.map_toArray, List.map_cons, List.map_nil]); first | done | rfl | (simp only [List.length_drop, List.length_take]; rfl)) ?_; (with_reducible refine (curtilagelaw09_do.calls kj2 16 t124 t125 t126 _ A15.out).mono ?_); rintro e w' ⟨rfl, ⟨nd, rfl⟩⟩; refine ⟨_, rfl, ?_⟩))
          (try simp only [Act.put, List.setIfInBounds_toArray, List.set_cons_zero, List.set_cons_succ])
          go_cut [63] (fun v63 wc => ∃ (kq : Nat) (x63_16 : Bool), v63 = .bool x63_16 ∧ Aside0 (curtilagelaw09_AluOrders.j1 kq a0 a1 x63_16 = some r) ∧ Aside0 (kq ≤ kj2) ∧ Drawn0 w wc)
          case first =>
            have H := HC17.out
            clear HC17
            replace H := Option.bind_eq_some_iff.mp H
            obtain ⟨t127, A180, H⟩ := H
            replace H : ((curtilagelaw09_do.f kj2 10 a0 a1).bind fun t128 => ((curtilagelaw09_do.f kj2 4 t127 t128).bind fun t129 => ((curtilagelaw09_do.f kj2 4 a0 a1).bind fun t130 => (if t129 = t130 then ((curtilagelaw09_do.f kj2 11 a0 a1).bind fun t131 => ((curtilagelaw09_do.f kj2 11 t131 a1).bind fun t132 => (curtilagelaw09_AluOrders.j1 kj2 a0 a1 (t132 != a0)))) else (curtilagelaw09_AluOrders.j1 kj2 a0 a1 true))))) = some r := H
            have A18 := Aside0.mk A180
            clear A180
            replace H := Option.bind_eq_some_iff.mp H
            obtain ⟨t128, A190, H⟩ := H
            replace H : ((curtilagelaw09_do.f kj2 4 t127 t128).bind fun t129 => ((curtilagelaw09_do.f kj2 4 a0 a1).bind fun t130 => (if t129 = t130 then ((curtilagelaw09_do.f kj2 11 a0 a1).bind fun t131 => ((curtilagelaw09_do.f kj2 11 t131 a1).bind fun t132 => (curtilagelaw09_AluOrders.j1 kj2 a0 a1 (t132 != a0)))) else (curtilagelaw09_AluOrders.j1 kj2 a0 a1 true)))) = some r := H
            have A19 := Aside0.mk A190
            clear A190
            replace H := Option.bind_eq_some_iff.mp H
            obtain ⟨t129, A200, H⟩ := H
            replace H : ((curtilagelaw09_do.f kj2 4 a0 a1).bind fun t130 => (if t129 = t130 then ((curtilagelaw09_do.f kj2 11 a0 a1).bind fun t131 => ((curtilagelaw09_do.f kj2 11 t131 a1).bind fun t132 => (curtilagelaw09_AluOrders.j1 kj2 a0 a1 (t132 != a0)))) else (curtilagelaw09_AluOrders.j1 kj2 a0 a1 true))) = some r := H
            have A20 := Aside0.mk A200
            clear A200
            replace H := Option.bind_eq_some_iff.mp H
            obtain ⟨t130, A210, H⟩ := H
            replace H : (if t129 = t130 then ((curtilagelaw09_do.f kj2 11 a0 a1).bind fun t131 => ((curtilagelaw09_do.f kj2 11 t131 a1).bind fun t132 => (curtilagelaw09_AluOrders.j1 kj2 a0 a1 (t132 != a0)))) else (curtilagelaw09_AluOrders.j1 kj2 a0 a1 true)) = some r := H
            have A21 := Aside0.mk A210
            clear A210
            by_cases c22 : t129 = t130
            · rw [if_pos c22] at H
              have c22b0 : (t129 == t130) = true := beq_iff_eq.mpr c22
              have c22b1 : (t129 != t130) = false := bne_eq_false_iff_eq.mpr c22
              clear c22
              (first | rw [c22b0] | (simp only [i64_w, i32_w]; rw [c22b0]) | skip)
              replace H := Option.bind_eq_some_iff.mp H
              obtain ⟨t131, A230, H⟩ := H
              replace H : ((curtilagelaw09_do.f kj2 11 t131 a1).bind fun t132 => (curtilagelaw09_AluOrders.j1 kj2 a0 a1 (t132 != a0))) = some r := H
              have A23 := Aside0.mk A230
              clear A230
              replace H := Option.bind_eq_some_iff.mp H
              obtain ⟨t132, A240, H⟩ := H
              replace H : (curtilagelaw09_AluOrders.j1 kj2 a0 a1 (t132 != a0)) = some r := H
              have A24 := Aside0.mk A240
              clear A240
              have H' := Aside0.mk H
              clear H
              go_wp2_with (first | ((with_reducible refine gate_callee (f := 25) rfl ?_); refine goesL_ (some 46) rfl rfl Try.func25 (by kernel_rfl) rfl #[.int .i64 9, .int .u64 a0, .int .u64 a1] rfl (by (try simp only [List.map_toArray, List.map_cons, List.map_nil]); first | done | rfl | (simp only [List.length_drop, List.length_take]; rfl)) ?_; (with_reducible refine (curtilagelaw09_do.calls kj2 9 a0 a1 t127 _ A18.out).mono ?_); rintro e w' ⟨rfl, ⟨nd, rfl⟩⟩; refine ⟨_, rfl, ?_⟩) | ((with_reducible refine gate_callee (f := 25) rfl ?_); refine goesL_ (some 49) rfl rfl Try.func25 (by kernel_rfl) rfl #[.int .i64 10, .int .u64 a0, .int .u64 a1] rfl (by (try simp only [List.map_toArray, List.map_cons, List.map_nil]); first | done | rfl | (simp only [List.length_drop, List.length_take]; rfl)) ?_; (with_reducible refine (curtilagelaw09_do.calls kj2 10 a0 a1 t128 _ A19.out).mono ?_); rintro e w' ⟨rfl, ⟨nd, rfl⟩⟩; refine ⟨_, rfl, ?_⟩) | ((with_reducible refine gate_callee (f := 25) rfl ?_); refine goesL_ (some 50) rfl rfl Try.func25 (by kernel_rfl) rfl #[.int .i64 4, .int .u64 t127, .int .u64 t128] rfl (by (try simp only [List.map_toArray, List.map_cons, List.map_nil]); first | done | rfl | (simp only [List.length_drop, List.length_take]; rfl)) ?_; (with_reducible refine (curtilagelaw09_do.calls kj2 4 t127 t128 t129 _ A20.out).mono ?_); rintro e w' ⟨rfl, ⟨nd, rfl⟩⟩; refine ⟨_, rfl, ?_⟩) | ((with_reducible refine gate_callee (f := 25) rfl ?_); refine goesL_ (some 53) rfl rfl Try.func25 (by kernel_rfl) rfl #[.int .i64 4, .int .u64 a0, .int .u64 a1] rfl (by (try simp only [List.map_toArray, List.map_cons, List.map_nil]); first | done | rfl | (simp only [List.length_drop, List.length_take]; rfl)) ?_; (with_reducible refine (curtilagelaw09_do.calls kj2 4 a0 a1 t130 _ A21.out).mono ?_); rintro e w' ⟨rfl, ⟨nd, rfl⟩⟩; refine ⟨_, rfl, ?_⟩) | (go_at_call 25; (with_reducible refine (curtilagelaw09_do.calls kj2 11 a0 a1 t131 _ A23.out).mono ?_); rintro e w' ⟨rfl, ⟨nd, rfl⟩⟩) | (go_at_call 25; (with_reducible refine (curtilagelaw09_do.calls kj2 11 t131 a1 t132 _ A24.out).mono ?_); rintro e w' ⟨rfl, ⟨nd, rfl⟩⟩))
              go_meet
              case rel => exact ⟨_, ((t132 != a0)), (by first | rfl | (simp; done) | (simp [*]; done)), H', ⟨by have := HJ2.out; first | omega | exact Nat.le_refl _⟩, by repeat (first | exact Drawn0.refl _ | apply Drawn0.step)⟩
            · rw [if_neg c22] at H
              have c22b0 : (t129 == t130) = false := beq_eq_false_iff_ne.mpr c22
              have c22b1 : (t129 != t130) = true := bne_iff_ne.mpr c22
              (first | rw [c22b0] | (simp only [i64_w, i32_w]; rw [c22b0]) | skip)
              have H' := Aside0.mk H
              clear H
              go_wp2_with (first | ((with_reducible refine gate_callee (f := 25) rfl ?_); refine goesL_ (some 46) rfl rfl Try.func25 (by kernel_rfl) rfl #[.int .i64 9, .int .u64 a0, .int .u64 a1] rfl (by (try simp only [List.map_toArray, List.map_cons, List.map_nil]); first | done | rfl | (simp only [List.length_drop, List.length_take]; rfl)) ?_; (with_reducible refine (curtilagelaw09_do.calls kj2 9 a0 a1 t127 _ A18.out).mono ?_); rintro e w' ⟨rfl, ⟨nd, rfl⟩⟩; refine ⟨_, rfl, ?_⟩) | ((with_reducible refine gate_callee (f := 25) rfl ?_); refine goesL_ (some 49) rfl rfl Try.func25 (by kernel_rfl) rfl #[.int .i64 10, .int .u64 a0, .int .u64 a1] rfl (by (try simp only [List.map_toArray, List.map_cons, List.map_nil]); first | done | rfl | (simp only [List.length_drop, List.length_take]; rfl)) ?_; (with_reducible refine (curtilagelaw09_do.calls kj2 10 a0 a1 t128 _ A19.out).mono ?_); rintro e w' ⟨rfl, ⟨nd, rfl⟩⟩; refine ⟨_, rfl, ?_⟩) | ((with_reducible refine gate_callee (f := 25) rfl ?_); refine goesL_ (some 50) rfl rfl Try.func25 (by kernel_rfl) rfl #[.int .i64 4, .int .u64 t127, .int .u64 t128] rfl (by (try simp only [List.map_toArray, List.map_cons, List.map_nil]); first | done | rfl | (simp only [List.length_drop, List.length_take]; rfl)) ?_; (with_reducible refine (curtilagelaw09_do.calls kj2 4 t127 t128 t129 _ A20.out).mono ?_); rintro e w' ⟨rfl, ⟨nd, rfl⟩⟩; refine ⟨_, rfl, ?_⟩) | ((with_reducible refine gate_callee (f := 25) rfl ?_); refine goesL_ (some 53) rfl rfl Try.func25 (by kernel_rfl) rfl #[.int .i64 4, .int .u64 a0, .int .u64 a1] rfl (by (try simp only [List.map_toArray, List.map_cons, List.map_nil]); first | done | rfl | (simp only [List.length_drop, List.length_take]; rfl)) ?_; (with_reducible refine (curtilagelaw09_do.calls kj2 4 a0 a1 t130 _ A21.out).mono ?_); rintro e w' ⟨rfl, ⟨nd, rfl⟩⟩; refine ⟨_, rfl, ?_⟩))
              go_meet
              case rel => exact ⟨_, (true), (by first | rfl | (simp; done) | (simp [*]; done)), H', ⟨by have := HJ2.out; first | omega | exact Nat.le_refl _⟩, by repeat (first | exact Drawn0.refl _ | apply Drawn0.step)⟩
          case rest =>
            clear HC17
            try clear c1
            try clear c2
            try clear p2
            try clear c7
            try clear c7b0
            try clear c7b1
            try clear c8
            try clear c11
            try clear c16
            try clear c16b0
            try clear c16b1
            try clear c22
            try clear c22b0
            try clear c22b1
            try clear p2
            obtain ⟨kq, x63_16, rfl, HA, HJ16, ⟨mc16, rfl⟩⟩ := hcut
            cases kq with
            | zero => exact absurd HA.out (by simp [curtilagelaw09_AluOrders.j1])
            | succ kj16 =>
              have H := HA.out
              clear HA
              simp only [curtilagelaw09_AluOrders.j1] at H
              by_cases c25 : x63_16 = true
              · subst c25
                have H1 : (some false) = some r := by rw [if_pos rfl] at H; exact H
                clear H
                have H := H1
                clear H1
                obtain rfl := Option.some.inj H
                go_wp2
                go_ret
                exact ⟨by first | rfl | (simp; done) | (simp [*]; done), by repeat (first | exact Drawn0.refl _ | apply Drawn0.step)⟩
              · replace c25 := Bool.eq_false_iff.mpr c25
                subst c25
                have H1 : ((curtilagelaw09_do.f kj16 9 a1 63).bind fun t133 => ((curtilagelaw09_do.f kj16 12 a0 a1).bind fun t134 => ((curtilagelaw09_do.f kj16 12 1 t133).bind fun t135 => ((curtilagelaw09_do.f kj16 6 a0 t135).bind fun t136 => (if t134 = t136 then ((curtilagelaw09_do.f kj16 13 a0 a1).bind fun t137 => ((curtilagelaw09_do.f kj16 12 1 t133).bind fun t138 => ((curtilagelaw09_do.f kj16 7 a0 t138).bind fun t139 => (if t137 = t139 then ((curtilagelaw09_awake.f kj16).bind fun t140 => (some t140)) else (some false))))) else (some false)))))) = some r := by rw [if_neg (show ¬ (false = true) by decide)] at H; exact H
                clear H
                have H := H1
                clear H1
                replace H := Option.bind_eq_some_iff.mp H
                obtain ⟨t133, A260, H⟩ := H
                replace H : ((curtilagelaw09_do.f kj16 12 a0 a1).bind fun t134 => ((curtilagelaw09_do.f kj16 12 1 t133).bind fun t135 => ((curtilagelaw09_do.f kj16 6 a0 t135).bind fun t136 => (if t134 = t136 then ((curtilagelaw09_do.f kj16 13 a0 a1).bind fun t137 => ((curtilagelaw09_do.f kj16 12 1 t133).bind fun t138 => ((curtilagelaw09_do.f kj16 7 a0 t138).bind fun t139 => (if t137 = t139 then ((curtilagelaw09_awake.f kj16).bind fun t140 => (some t140)) else (some false))))) else (some false))))) = some r := H
                have A26 := Aside0.mk A260
                clear A260
                replace H := Option.bind_eq_some_iff.mp H
                obtain ⟨t134, A270, H⟩ := H
                replace H : ((curtilagelaw09_do.f kj16 12 1 t133).bind fun t135 => ((curtilagelaw09_do.f kj16 6 a0 t135).bind fun t136 => (if t134 = t136 then ((curtilagelaw09_do.f kj16 13 a0 a1).bind fun t137 => ((curtilagelaw09_do.f kj16 12 1 t133).bind fun t138 => ((curtilagelaw09_do.f kj16 7 a0 t138).bind fun t139 => (if t137 = t139 then ((curtilagelaw09_awake.f kj16).bind fun t140 => (some t140)) else (some false))))) else (some false)))) = some r := H
                have A27 := Aside0.mk A270
                clear A270
                replace H := Option.bind_eq_some_iff.mp H
                obtain ⟨t135, A280, H⟩ := H
                replace H : ((curtilagelaw09_do.f kj16 6 a0 t135).bind fun t136 => (if t134 = t136 then ((curtilagelaw09_do.f kj16 13 a0 a1).bind fun t137 => ((curtilagelaw09_do.f kj16 12 1 t133).bind fun t138 => ((curtilagelaw09_do.f kj16 7 a0 t138).bind fun t139 => (if t137 = t139 then ((curtilagelaw09_awake.f kj16).bind fun t140 => (some t140)) else (some false))))) else (some false))) = some r := H
                have A28 := Aside0.mk A280
                clear A280
                replace H := Option.bind_eq_some_iff.mp H
                obtain ⟨t136, A290, H⟩ := H
                replace H : (if t134 = t136 then ((curtilagelaw09_do.f kj16 13 a0 a1).bind fun t137 => ((curtilagelaw09_do.f kj16 12 1 t133).bind fun t138 => ((curtilagelaw09_do.f kj16 7 a0 t138).bind fun t139 => (if t137 = t139 then ((curtilagelaw09_awake.f kj16).bind fun t140 => (some t140)) else (some false))))) else (some false)) = some r := H
                have A29 := Aside0.mk A290
                clear A290
                by_cases c30 : t134 = t136
                · rw [if_pos c30] at H
                  have c30b0 : (t134 == t136) = true := beq_iff_eq.mpr c30
                  have c30b1 : (t134 != t136) = false := bne_eq_false_iff_eq.mpr c30
                  clear c30
                  replace H := Option.bind_eq_some_iff.mp H
                  obtain ⟨t137, A310, H⟩ := H
                  replace H : ((curtilagelaw09_do.f kj16 12 1 t133).bind fun t138 => ((curtilagelaw09_do.f kj16 7 a0 t138).bind fun t139 => (if t137 = t139 then ((curtilagelaw09_awake.f kj16).bind fun t140 => (some t140)) else (some false)))) = some r := H
                  have A31 := Aside0.mk A310
                  clear A310
                  replace H := Option.bind_eq_some_iff.mp H
                  obtain ⟨t138, A320, H⟩ := H
                  replace H : ((curtilagelaw09_do.f kj16 7 a0 t138).bind fun t139 => (if t137 = t139 then ((curtilagelaw09_awake.f kj16).bind fun t140 => (some t140)) else (some false))) = some r := H
                  have A32 := Aside0.mk A320
                  clear A320
                  replace H := Option.bind_eq_some_iff.mp H
                  obtain ⟨t139, A330, H⟩ := H
                  replace H : (if t137 = t139 then ((curtilagelaw09_awake.f kj16).bind fun t140 => (some t140)) else (some false)) = some r := H
                  have A33 := Aside0.mk A330
                  clear A330
                  by_cases c34 : t137 = t139
                  · rw [if_pos c34] at H
                    have c34b0 : (t137 == t139) = true := beq_iff_eq.mpr c34
                    have c34b1 : (t137 != t139) = false := bne_eq_false_iff_eq.mpr c34
                    clear c34
                    replace H := Option.bind_eq_some_iff.mp H
                    obtain ⟨t140, A350, H⟩ := H
                    replace H : (some t140) = some r := H
                    have A35 := Aside0.mk A350
                    clear A350
                    obtain rfl := Option.some.inj H
                    go_wp2_with (first | ((with_reducible refine gate_callee (f := 25) rfl ?_); refine goesL_ (some 65) rfl rfl Try.func25 (by kernel_rfl) rfl #[.int .i64 9, .int .u64 a1, .int .u64 63] rfl (by (try simp only [List.map_toArray, List.map_cons, List.map_nil]); first | done | rfl | (simp only [List.length_drop, List.length_take]; rfl)) ?_; (with_reducible refine (curtilagelaw09_do.calls kj16 9 a1 63 t133 _ A26.out).mono ?_); rintro e w' ⟨rfl, ⟨nd, rfl⟩⟩; refine ⟨_, rfl, ?_⟩) | ((with_reducible refine gate_callee (f := 25) rfl ?_); refine goesL_ (some 68) rfl rfl Try.func25 (by kernel_rfl) rfl #[.int .i64 12, .int .u64 a0, .int .u64 a1] rfl (by (try simp only [List.map_toArray, List.map_cons, List.map_nil]); first | done | rfl | (simp only [List.length_drop, List.length_take]; rfl)) ?_; (with_reducible refine (curtilagelaw09_do.calls kj16 12 a0 a1 t134 _ A27.out).mono ?_); rintro e w' ⟨rfl, ⟨nd, rfl⟩⟩; refine ⟨_, rfl, ?_⟩) | ((with_reducible refine gate_callee (f := 25) rfl ?_); refine goesL_ (some 71) rfl rfl Try.func25 (by kernel_rfl) rfl #[.int .i64 12, .int .u64 1, .int .u64 t133] rfl (by (try simp only [List.map_toArray, List.map_cons, List.map_nil]); first | done | rfl | (simp only [List.length_drop, List.length_take]; rfl)) ?_; (with_reducible refine (curtilagelaw09_do.calls kj16 12 1 t133 t135 _ A28.out).mono ?_); rintro e w' ⟨rfl, ⟨nd, rfl⟩⟩; refine ⟨_, rfl, ?_⟩) | ((with_reducible refine gate_callee (f := 25) rfl ?_); refine goesL_ (some 72) rfl rfl Try.func25 (by kernel_rfl) rfl #[.int .i64 6, .int .u64 a0, .int .u64 t135] rfl (by (try simp only [List.map_toArray, List.map_cons, List.map_nil]); first | done | rfl | (simp only [List.length_drop, List.length_take]; rfl)) ?_; (with_reducible refine (curtilagelaw09_do.calls kj16 6 a0 t135 t136 _ A29.out).mono ?_); rintro e w' ⟨rfl, ⟨nd, rfl⟩⟩; refine ⟨_, rfl, ?_⟩) | (go_at_call 25; (with_reducible refine (curtilagelaw09_do.calls kj16 13 a0 a1 t137 _ A31.out).mono ?_); rintro e w' ⟨rfl, ⟨nd, rfl⟩⟩) | (go_at_call 25; (with_reducible refine (curtilagelaw09_do.calls kj16 12 1 t133 t138 _ A32.out).mono ?_); rintro e w' ⟨rfl, ⟨nd, rfl⟩⟩) | (go_at_call 25; (with_reducible refine (curtilagelaw09_do.calls kj16 7 a0 t138 t139 _ A33.out).mono ?_); rintro e w' ⟨rfl, ⟨nd, rfl⟩⟩) | (go_at_call 26; (with_reducible refine (curtilagelaw09_awake.calls kj16  t140 _ A35.out).mono ?_); rintro e w' ⟨rfl, ⟨nd, rfl⟩⟩))
                    go_ret
                    exact ⟨by first | rfl | (simp; done) | (simp [*]; done), by repeat (first | exact Drawn0.refl _ | apply Drawn0.step)⟩
                  · rw [if_neg c34] at H
                    have c34b0 : (t137 == t139) = false := beq_eq_false_iff_ne.mpr c34
                    have c34b1 : (t137 != t139) = true := bne_iff_ne.mpr c34
                    obtain rfl := Option.some.inj H
                    go_wp2_with (first | ((with_reducible refine gate_callee (f := 25) rfl ?_); refine goesL_ (some 65) rfl rfl Try.func25 (by kernel_rfl) rfl #[.int .i64 9, .int .u64 a1, .int .u64 63] rfl (by (try simp only [List.map_toArray, List.map_cons, List.map_nil]); first | done | rfl | (simp only [List.length_drop, List.length_take]; rfl)) ?_; (with_reducible refine (curtilagelaw09_do.calls kj16 9 a1 63 t133 _ A26.out).mono ?_); rintro e w' ⟨rfl, ⟨nd, rfl⟩⟩; refine ⟨_, rfl, ?_⟩) | ((with_reducible refine gate_callee (f := 25) rfl ?_); refine goesL_ (some 68) rfl rfl Try.func25 (by kernel_rfl) rfl #[.int .i64 12, .int .u64 a0, .int .u64 a1] rfl (by (try simp only [List.map_toArray, List.map_cons, List.map_nil]); first | done | rfl | (simp only [List.length_drop, List.length_take]; rfl)) ?_; (with_reducible refine (curtilagelaw09_do.calls kj16 12 a0 a1 t134 _ A27.out).mono ?_); rintro e w' ⟨rfl, ⟨nd, rfl⟩⟩; refine ⟨_, rfl, ?_⟩) | ((with_reducible refine gate_callee (f := 25) rfl ?_); refine goesL_ (some 71) rfl rfl Try.func25 (by kernel_rfl) rfl #[.int .i64 12, .int .u64 1, .int .u64 t133] rfl (by (try simp only [List.map_toArray, List.map_cons, List.map_nil]); first | done | rfl | (simp only [List.length_drop, List.length_take]; rfl)) ?_; (with_reducible refine (curtilagelaw09_do.calls kj16 12 1 t133 t135 _ A28.out).mono ?_); rintro e w' ⟨rfl, ⟨nd, rfl⟩⟩; refine ⟨_, rfl, ?_⟩) | ((with_reducible refine gate_callee (f := 25) rfl ?_); refine goesL_ (some 72) rfl rfl Try.func25 (by kernel_rfl) rfl #[.int .i64 6, .int .u64 a0, .int .u64 t135] rfl (by (try simp only [List.map_toArray, List.map_cons, List.map_nil]); first | done | rfl | (simp only [List.length_drop, List.length_take]; rfl)) ?_; (with_reducible refine (curtilagelaw09_do.calls kj16 6 a0 t135 t136 _ A29.out).mono ?_); rintro e w' ⟨rfl, ⟨nd, rfl⟩⟩; refine ⟨_, rfl, ?_⟩) | (go_at_call 25; (with_reducible refine (curtilagelaw09_do.calls kj16 13 a0 a1 t137 _ A31.out).mono ?_); rintro e w' ⟨rfl, ⟨nd, rfl⟩⟩) | (go_at_call 25; (with_reducible refine (curtilagelaw09_do.calls kj16 12 1 t133 t138 _ A32.out).mono ?_); rintro e w' ⟨rfl, ⟨nd, rfl⟩⟩) | (go_at_call 25; (with_reducible refine (curtilagelaw09_do.calls kj16 7 a0 t138 t139 _ A33.out).mono ?_); rintro e w' ⟨rfl, ⟨nd, rfl⟩⟩))
                    go_ret
                    exact ⟨by first | rfl | (simp; done) | (simp [*]; done), by repeat (first | exact Drawn0.refl _ | apply Drawn0.step)⟩
                · rw [if_neg c30] at H
                  have c30b0 : (t134 == t136) = false := beq_eq_false_iff_ne.mpr c30
                  have c30b1 : (t134 != t136) = true := bne_iff_ne.mpr c30
                  obtain rfl := Option.some.inj H
                  go_wp2_with (first | ((with_reducible refine gate_callee (f := 25) rfl ?_); refine goesL_ (some 65) rfl rfl Try.func25 (by kernel_rfl) rfl #[.int .i64 9, .int .u64 a1, .int .u64 63] rfl (by (try simp only [List.map_toArray, List.map_cons, List.map_nil]); first | done | rfl | (simp only [List.length_drop, List.length_take]; rfl)) ?_; (with_reducible refine (curtilagelaw09_do.calls kj16 9 a1 63 t133 _ A26.out).mono ?_); rintro e w' ⟨rfl, ⟨nd, rfl⟩⟩; refine ⟨_, rfl, ?_⟩) | ((with_reducible refine gate_callee (f := 25) rfl ?_); refine goesL_ (some 68) rfl rfl Try.func25 (by kernel_rfl) rfl #[.int .i64 12, .int .u64 a0, .int .u64 a1] rfl (by (try simp only [List.map_toArray, List.map_cons, List.map_nil]); first | done | rfl | (simp only [List.length_drop, List.length_take]; rfl)) ?_; (with_reducible refine (curtilagelaw09_do.calls kj16 12 a0 a1 t134 _ A27.out).mono ?_); rintro e w' ⟨rfl, ⟨nd, rfl⟩⟩; refine ⟨_, rfl, ?_⟩) | ((with_reducible refine gate_callee (f := 25) rfl ?_); refine goesL_ (some 71) rfl rfl Try.func25 (by kernel_rfl) rfl #[.int .i64 12, .int .u64 1, .int .u64 t133] rfl (by (try simp only [List.map_toArray, List.map_cons, List.map_nil]); first | done | rfl | (simp only [List.length_drop, List.length_take]; rfl)) ?_; (with_reducible refine (curtilagelaw09_do.calls kj16 12 1 t133 t135 _ A28.out).mono ?_); rintro e w' ⟨rfl, ⟨nd, rfl⟩⟩; refine ⟨_, rfl, ?_⟩) | ((with_reducible refine gate_callee (f := 25) rfl ?_); refine goesL_ (some 72) rfl rfl Try.func25 (by kernel_rfl) rfl #[.int .i64 6, .int .u64 a0, .int .u64 t135] rfl (by (try simp only [List.map_toArray, List.map_cons, List.map_nil]); first | done | rfl | (simp only [List.length_drop, List.length_take]; rfl)) ?_; (with_reducible refine (curtilagelaw09_do.calls kj16 6 a0 t135 t136 _ A29.out).mono ?_); rintro e w' ⟨rfl, ⟨nd, rfl⟩⟩; refine ⟨_, rfl, ?_⟩))
                  go_ret
                  exact ⟨by first | rfl | (simp; done) | (simp [*]; done), by repeat (first | exact Drawn0.refl _ | apply Drawn0.step)⟩
        · rw [if_neg c16] at H
          have c16b0 : (t123 == t126) = false := beq_eq_false_iff_ne.mpr c16
          have c16b1 : (t123 != t126) = true := bne_iff_ne.mpr c16
          obtain rfl := Option.some.inj H
          go_wp2_with (first | ((with_reducible refine gate_callee (f := 25) rfl ?_); refine goesL_ (some 35) rfl rfl Try.func25 (by kernel_rfl) rfl #[.int .i64 17, .int .u64 a0, .int .u64 a1] rfl (by (try simp only [List.map_toArray, List.map_cons, List.map_nil]); first | done | rfl | (simp only [List.length_drop, List.length_take]; rfl)) ?_; (with_reducible refine (curtilagelaw09_do.calls kj2 17 a0 a1 t123 _ A12.out).mono ?_); rintro e w' ⟨rfl, ⟨nd, rfl⟩⟩; refine ⟨_, rfl, ?_⟩) | ((with_reducible refine gate_callee (f := 25) rfl ?_); refine goesL_ (some 38) rfl rfl Try.func25 (by kernel_rfl) rfl #[.int .i64 11, .int .u64 a0, .int .u64 9223372036854775808] rfl (by (try simp only [List.map_toArray, List.map_cons, List.map_nil]); first | done | rfl | (simp only [List.length_drop, List.length_take]; rfl)) ?_; (with_reducible refine (curtilagelaw09_do.calls kj2 11 a0 9223372036854775808 t124 _ A13.out).mono ?_); rintro e w' ⟨rfl, ⟨nd, rfl⟩⟩; refine ⟨_, rfl, ?_⟩) | ((with_reducible refine gate_callee (f := 25) rfl ?_); refine goesL_ (some 41) rfl rfl Try.func25 (by kernel_rfl) rfl #[.int .i64 11, .int .u64 a1, .int .u64 9223372036854775808] rfl (by (try simp only [List.map_toArray, List.map_cons, List.map_nil]); first | done | rfl | (simp only [List.length_drop, List.length_take]; rfl)) ?_; (with_reducible refine (curtilagelaw09_do.calls kj2 11 a1 9223372036854775808 t125 _ A14.out).mono ?_); rintro e w' ⟨rfl, ⟨nd, rfl⟩⟩; refine ⟨_, rfl, ?_⟩) | ((with_reducible refine gate_callee (f := 25) rfl ?_); refine goesL_ (some 42) rfl rfl Try.func25 (by kernel_rfl) rfl #[.int .i64 16, .int .u64 t124, .int .u64 t125] rfl (by (try simp only [List.map_toArray, List.map_cons, List.map_nil]); first | done | rfl | (simp only [List.length_drop, List.length_take]; rfl)) ?_; (with_reducible refine (curtilagelaw09_do.calls kj2 16 t124 t125 t126 _ A15.out).mono ?_); rintro e w' ⟨rfl, ⟨nd, rfl⟩⟩; refine ⟨_, rfl, ?_⟩))
          go_ret
          exact ⟨by first | rfl | (simp; done) | (simp [*]; done), by repeat (first | exact Drawn0.refl _ | apply Drawn0.step)⟩

/-- THE ONE PURE STATEMENT of curtilagelaw09_AluOrders: yours. -/
def curtilagelaw09_AluOrders.Pure : Prop := ∀ (a0 : Int) (a1 : Int), (Lit.int .u64 a0).wf = true → (Lit.int .u64 a1).wf = true → ∃ k, curtilagelaw09_AluOrders.f k a0 a1 = some true
theorem curtilagelaw09_AluOrders.walk (P : curtilagelaw09_AluOrders.Pure) (a0 : Int) (a1 : Int) (w : World) (w0 : (Lit.int .u64 a0).wf = true) (w1 : (Lit.int .u64 a1).wf = true) :
    Calls Try.prog 8 #[.int .u64 a0, .int .u64 a1] w fun e w' => e = .returned (.bool true) ∧ Below w.heap.size w w' := by
  obtain ⟨k, h⟩ := P a0 a1 w0 w1
  refine (curtilagelaw09_AluOrders.calls k a0 a1 true w h).mono ?_
  rintro e w' ⟨rfl, hd⟩
  exact ⟨rfl, hd.below⟩

end Go.Proofs.Ytnocdfajeanmdaa.PAluOrders
