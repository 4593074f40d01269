-- PRINTED BY print.sh 35421559b90ae4d0a3588c463048766b98c2df88dd9212a6774a882060cdf62d: not written by this session
import Derived.Test.YtnocdfajeanmdaaPAluSpreadsx0
import Derived.Test.YtnocdfajeanmdaaPAluSpreadsx1
namespace Go.Proofs.Ytnocdfajeanmdaa.PAluSpreads
open Go.RowKit Go.Proofs.YtnocdfajeanmdaaW.PrintWords Go.Proofs.YtnocdfajeanmdaaW.PrintLast Go.Proofs.YtnocdfajeanmdaaW.PrintMore
attribute [local go_sem] max2_int min2_int max_two min_two max_three min_three max_four min_four   -- for this text's walks alone
set_option linter.unusedVariables false
set_option linter.unusedSimpArgs false

/-! ### curtilagelaw09_AluSpreads: function 9 -/
mutual
def curtilagelaw09_AluSpreads.j0 : Nat → Int → Int → Int → Bool → Option (Bool)
  | 0, _, _, _, _ => none
  | k + 1, x0, x1, x2, x52 => if x52 = true then (some false) else ((some (([4, 6, 9, 10, 11] : List Int) : List Int)).bind fun y132 => (curtilagelaw09_AluSpreads.l0 k x0 x1 x2 y132 (y132.length : Int) 0))
def curtilagelaw09_AluSpreads.l0 : Nat → Int → Int → Int → List Int → Int → Int → Option (Bool)
  | 0, _, _, _, _, _, _ => none
  | k + 1, x0, x1, x2, x53, x54, x55 => if x55 < x54 then (if 0 ≤ x55 then (if x55 < (x53.length : Int) then ((curtilagelaw09_do.f k (rd x53 x55) x0 x1).bind fun t136 => ((curtilagelaw09_do.f k (rd x53 x55) x1 x0).bind fun t137 => (if t136 = t137 then ((curtilagelaw09_do.f k (rd x53 x55) x1 x2).bind fun t138 => ((curtilagelaw09_do.f k (rd x53 x55) x0 t138).bind fun t139 => ((curtilagelaw09_do.f k (rd x53 x55) x0 x1).bind fun t140 => ((curtilagelaw09_do.f k (rd x53 x55) t140 x2).bind fun t141 => (if t139 = t141 then (curtilagelaw09_AluSpreads.l0 k x0 x1 x2 x53 x54 (wrap64 (x55 + 1))) else (some false)))))) else (some false)))) else (none)) else (none)) else ((curtilagelaw09_do.f k 12 x0 (IntKind.u64.wrap ((Int.tmod x2 63) + 1))).bind fun t142 => ((curtilagelaw09_do.f k 12 x0 (Int.tmod x2 63)).bind fun t143 => ((curtilagelaw09_do.f k 12 x0 (Int.tmod x2 63)).bind fun t144 => ((curtilagelaw09_do.f k 4 t143 t144).bind fun t145 => (if t142 = t145 then ((curtilagelaw09_do.f k 12 x0 x2).bind fun t146 => ((curtilagelaw09_do.f k 12 x0 (Int.tmod x2 64)).bind fun t147 => (if t146 = t147 then ((curtilagelaw09_awake.f k).bind fun t148 => (some t148)) else (some false)))) else (some false))))))
end
def curtilagelaw09_AluSpreads.f (k : Nat) (a0 : Int) (a1 : Int) (a2 : Int) : Option (Bool) := (curtilagelaw09_do.f k 4 a1 a2).bind fun t117 => ((curtilagelaw09_do.f k 6 a0 t117).bind fun t118 => ((curtilagelaw09_do.f k 6 a0 a1).bind fun t119 => ((curtilagelaw09_do.f k 6 a0 a2).bind fun t120 => ((curtilagelaw09_do.f k 4 t119 t120).bind fun t121 => (if t118 = t121 then ((curtilagelaw09_do.f k 11 a1 a2).bind fun t122 => ((curtilagelaw09_do.f k 9 a0 t122).bind fun t123 => ((curtilagelaw09_do.f k 9 a0 a1).bind fun t124 => ((curtilagelaw09_do.f k 9 a0 a2).bind fun t125 => ((curtilagelaw09_do.f k 11 t124 t125).bind fun t126 => (if t123 = t126 then ((curtilagelaw09_do.f k 9 a1 a2).bind fun t127 => ((curtilagelaw09_do.f k 10 a0 t127).bind fun t128 => ((curtilagelaw09_do.f k 10 a0 a1).bind fun t129 => ((curtilagelaw09_do.f k 10 a0 a2).bind fun t130 => ((curtilagelaw09_do.f k 9 t129 t130).bind fun t131 => (curtilagelaw09_AluSpreads.j0 k a0 a1 a2 (t128 != t131))))))) else (curtilagelaw09_AluSpreads.j0 k a0 a1 a2 true))))))) else (curtilagelaw09_AluSpreads.j0 k a0 a1 a2 true))))))
theorem curtilagelaw09_AluSpreads.mono_l : ∀ k, (∀ y0 y1 y2 y3, LeO (curtilagelaw09_AluSpreads.j0 k y0 y1 y2 y3) (curtilagelaw09_AluSpreads.j0 (k + 1) y0 y1 y2 y3)) ∧ (∀ y0 y1 y2 y3 y4 y5, LeO (curtilagelaw09_AluSpreads.l0 k y0 y1 y2 y3 y4 y5) (curtilagelaw09_AluSpreads.l0 (k + 1) y0 y1 y2 y3 y4 y5))
  | 0 => ⟨fun _ _ _ _ r h => by simp [curtilagelaw09_AluSpreads.j0] at h, fun _ _ _ _ _ _ r h => by simp [curtilagelaw09_AluSpreads.l0] at h⟩
  | k + 1 => by
    obtain ⟨ih0, ih1⟩ := curtilagelaw09_AluSpreads.mono_l k
    refine ⟨?_, ?_⟩
    · intro y0 y1 y2 y3
      unfold curtilagelaw09_AluSpreads.j0
      repeat' first
      | (with_reducible exact ih0 _ _ _ _)
      | (with_reducible exact ih1 _ _ _ _ _ _)
      | (with_reducible exact curtilagelaw09_awake.mono _)
      | (with_reducible exact curtilagelaw09_do.mono _ _ _ _)
      | (with_reducible exact LeO.refl _)
      | (with_reducible exact LeO.none _)
      | (with_reducible refine LeO.ite ?_ ?_)
      | (with_reducible refine LeO.bind ?_ (fun _ => ?_))
      | exact ih0 _ _ _ _
      | exact ih1 _ _ _ _ _ _
      | exact curtilagelaw09_awake.mono _
      | exact curtilagelaw09_do.mono _ _ _ _
      | exact LeO.none _
      | refine LeO.ite ?_ ?_
      | refine LeO.bind ?_ (fun _ => ?_)
    · intro y0 y1 y2 y3 y4 y5
      unfold curtilagelaw09_AluSpreads.l0
      repeat' first
      | (with_reducible exact ih0 _ _ _ _)
      | (with_reducible exact ih1 _ _ _ _ _ _)
      | (with_reducible exact curtilagelaw09_awake.mono _)
      | (with_reducible exact curtilagelaw09_do.mono _ _ _ _)
      | (with_reducible exact LeO.refl _)
      | (with_reducible exact LeO.none _)
      | (with_reducible refine LeO.ite ?_ ?_)
      | (with_reducible refine LeO.bind ?_ (fun _ => ?_))
      | exact ih0 _ _ _ _
      | exact ih1 _ _ _ _ _ _
      | exact curtilagelaw09_awake.mono _
      | exact curtilagelaw09_do.mono _ _ _ _
      | exact LeO.none _
      | refine LeO.ite ?_ ?_
      | refine LeO.bind ?_ (fun _ => ?_)
theorem curtilagelaw09_AluSpreads.mono : ∀ a0 a1 a2 k, LeO (curtilagelaw09_AluSpreads.f k a0 a1 a2) (curtilagelaw09_AluSpreads.f (k + 1) a0 a1 a2) := by
  intro a0 a1 a2 k
  obtain ⟨ih0, ih1⟩ := curtilagelaw09_AluSpreads.mono_l k
  unfold curtilagelaw09_AluSpreads.f
  repeat' first
      | (with_reducible exact ih0 _ _ _ _)
      | (with_reducible exact ih1 _ _ _ _ _ _)
      | (with_reducible exact curtilagelaw09_awake.mono _)
      | (with_reducible exact curtilagelaw09_do.mono _ _ _ _)
      | (with_reducible exact LeO.refl _)
      | (with_reducible exact LeO.none _)
      | (with_reducible refine LeO.ite ?_ ?_)
      | (with_reducible refine LeO.bind ?_ (fun _ => ?_))
      | exact ih0 _ _ _ _
      | exact ih1 _ _ _ _ _ _
      | exact curtilagelaw09_awake.mono _
      | exact curtilagelaw09_do.mono _ _ _ _
      | exact LeO.none _
      | refine LeO.ite ?_ ?_
      | refine LeO.bind ?_ (fun _ => ?_)
set_option maxHeartbeats 8000000 in
set_option maxRecDepth 100000 in
theorem curtilagelaw09_AluSpreads.calls (k : Nat) (a0 : Int) (a1 : Int) (a2 : Int) (r : Bool) (w : World) (h : curtilagelaw09_AluSpreads.f k a0 a1 a2 = some r) :
    Calls Try.prog 9 #[.int .u64 a0, .int .u64 a1, .int .u64 a2] w fun e w' => e = .returned (.bool r) ∧ Below w.heap.size w w' := by
  have HB := Aside0.mk (Below.refl w.heap.size w)
  have H : ((curtilagelaw09_do.f k 4 a1 a2).bind fun t117 => ((curtilagelaw09_do.f k 6 a0 t117).bind fun t118 => ((curtilagelaw09_do.f k 6 a0 a1).bind fun t119 => ((curtilagelaw09_do.f k 6 a0 a2).bind fun t120 => ((curtilagelaw09_do.f k 4 t119 t120).bind fun t121 => (if t118 = t121 then ((curtilagelaw09_do.f k 11 a1 a2).bind fun t122 => ((curtilagelaw09_do.f k 9 a0 t122).bind fun t123 => ((curtilagelaw09_do.f k 9 a0 a1).bind fun t124 => ((curtilagelaw09_do.f k 9 a0 a2).bind fun t125 => ((curtilagelaw09_do.f k 11 t124 t125).bind fun t126 => (if t123 = t126 then ((curtilagelaw09_do.f k 9 a1 a2).bind fun t127 => ((curtilagelaw09_do.f k 10 a0 t127).bind fun t128 => ((curtilagelaw09_do.f k 10 a0 a1).bind fun t129 => ((curtilagelaw09_do.f k 10 a0 a2).bind fun t130 => ((curtilagelaw09_do.f k 9 t129 t130).bind fun t131 => (curtilagelaw09_AluSpreads.j0 k a0 a1 a2 (t128 != t131))))))) else (curtilagelaw09_AluSpreads.j0 k a0 a1 a2 true))))))) else (curtilagelaw09_AluSpreads.j0 k a0 a1 a2 true))))))) = some r := h
  clear h
  have HC4 := Aside0.mk H
  clear H
  go_enter Try.func9, Try.ntmps9
  go_upto_region 1 with (fail)
  go_cut [52] (fun v52 wc => ∃ (kq : Nat) (x52_3 : Bool), v52 = .bool x52_3 ∧ Aside0 (curtilagelaw09_AluSpreads.j0 kq a0 a1 a2 x52_3 = some r) ∧ Aside0 (kq ≤ k) ∧ Aside0 (Below w.heap.size w wc))
  case first =>
    have H := HC4.out
    clear HC4
    replace H := Option.bind_eq_some_iff.mp H
    obtain ⟨t117, A50, H⟩ := H
    replace H : ((curtilagelaw09_do.f k 6 a0 t117).bind fun t118 => ((curtilagelaw09_do.f k 6 a0 a1).bind fun t119 => ((curtilagelaw09_do.f k 6 a0 a2).bind fun t120 => ((curtilagelaw09_do.f k 4 t119 t120).bind fun t121 => (if t118 = t121 then ((curtilagelaw09_do.f k 11 a1 a2).bind fun t122 => ((curtilagelaw09_do.f k 9 a0 t122).bind fun t123 => ((curtilagelaw09_do.f k 9 a0 a1).bind fun t124 => ((curtilagelaw09_do.f k 9 a0 a2).bind fun t125 => ((curtilagelaw09_do.f k 11 t124 t125).bind fun t126 => (if t123 = t126 then ((curtilagelaw09_do.f k 9 a1 a2).bind fun t127 => ((curtilagelaw09_do.f k 10 a0 t127).bind fun t128 => ((curtilagelaw09_do.f k 10 a0 a1).bind fun t129 => ((curtilagelaw09_do.f k 10 a0 a2).bind fun t130 => ((curtilagelaw09_do.f k 9 t129 t130).bind fun t131 => (curtilagelaw09_AluSpreads.j0 k a0 a1 a2 (t128 != t131))))))) else (curtilagelaw09_AluSpreads.j0 k a0 a1 a2 true))))))) else (curtilagelaw09_AluSpreads.j0 k a0 a1 a2 true)))))) = some r := H
    have A5 := Aside0.mk A50
    clear A50
    replace H := Option.bind_eq_some_iff.mp H
    obtain ⟨t118, A60, H⟩ := H
    replace H : ((curtilagelaw09_do.f k 6 a0 a1).bind fun t119 => ((curtilagelaw09_do.f k 6 a0 a2).bind fun t120 => ((curtilagelaw09_do.f k 4 t119 t120).bind fun t121 => (if t118 = t121 then ((curtilagelaw09_do.f k 11 a1 a2).bind fun t122 => ((curtilagelaw09_do.f k 9 a0 t122).bind fun t123 => ((curtilagelaw09_do.f k 9 a0 a1).bind fun t124 => ((curtilagelaw09_do.f k 9 a0 a2).bind fun t125 => ((curtilagelaw09_do.f k 11 t124 t125).bind fun t126 => (if t123 = t126 then ((curtilagelaw09_do.f k 9 a1 a2).bind fun t127 => ((curtilagelaw09_do.f k 10 a0 t127).bind fun t128 => ((curtilagelaw09_do.f k 10 a0 a1).bind fun t129 => ((curtilagelaw09_do.f k 10 a0 a2).bind fun t130 => ((curtilagelaw09_do.f k 9 t129 t130).bind fun t131 => (curtilagelaw09_AluSpreads.j0 k a0 a1 a2 (t128 != t131))))))) else (curtilagelaw09_AluSpreads.j0 k a0 a1 a2 true))))))) else (curtilagelaw09_AluSpreads.j0 k a0 a1 a2 true))))) = some r := H
    have A6 := Aside0.mk A60
    clear A60
    replace H := Option.bind_eq_some_iff.mp H
    obtain ⟨t119, A70, H⟩ := H
    replace H : ((curtilagelaw09_do.f k 6 a0 a2).bind fun t120 => ((curtilagelaw09_do.f k 4 t119 t120).bind fun t121 => (if t118 = t121 then ((curtilagelaw09_do.f k 11 a1 a2).bind fun t122 => ((curtilagelaw09_do.f k 9 a0 t122).bind fun t123 => ((curtilagelaw09_do.f k 9 a0 a1).bind fun t124 => ((curtilagelaw09_do.f k 9 a0 a2).bind fun t125 => ((curtilagelaw09_do.f k 11 t124 t125).bind fun t126 => (if t123 = t126 then ((curtilagelaw09_do.f k 9 a1 a2).bind fun t127 => ((curtilagelaw09_do.f k 10 a0 t127).bind fun t128 => ((curtilagelaw09_do.f k 10 a0 a1).bind fun t129 => ((curtilagelaw09_do.f k 10 a0 a2).bind fun t130 => ((curtilagelaw09_do.f k 9 t129 t130).bind fun t131 => (curtilagelaw09_AluSpreads.j0 k a0 a1 a2 (t128 != t131))))))) else (curtilagelaw09_AluSpreads.j0 k a0 a1 a2 true))))))) else (curtilagelaw09_AluSpreads.j0 k a0 a1 a2 true)))) = some r := H
    have A7 := Aside0.mk A70
    clear A70
    replace H := Option.bind_eq_some_iff.mp H
    obtain ⟨t120, A80, H⟩ := H
    replace H : ((curtilagelaw09_do.f k 4 t119 t120).bind fun t121 => (if t118 = t121 then ((curtilagelaw09_do.f k 11 a1 a2).bind fun t122 => ((curtilagelaw09_do.f k 9 a0 t122).bind fun t123 => ((curtilagelaw09_do.f k 9 a0 a1).bind fun t124 => ((curtilagelaw09_do.f k 9 a0 a2).bind fun t125 => ((curtilagelaw09_do.f k 11 t124 t125).bind fun t126 => (if t123 = t126 then ((curtilagelaw09_do.f k 9 a1 a2).bind fun t127 => ((curtilagelaw09_do.f k 10 a0 t127).bind fun t128 => ((curtilagelaw09_do.f k 10 a0 a1).bind fun t129 => ((curtilagelaw09_do.f k 10 a0 a2).bind fun t130 => ((curtilagelaw09_do.f k 9 t129 t130).bind fun t131 => (curtilagelaw09_AluSpreads.j0 k a0 a1 a2 (t128 != t131))))))) else (curtilagelaw09_AluSpreads.j0 k a0 a1 a2 true))))))) else (curtilagelaw09_AluSpreads.j0 k a0 a1 a2 true))) = some r := H
    have A8 := Aside0.mk A80
    clear A80
    replace H := Option.bind_eq_some_iff.mp H
    obtain ⟨t121, A90, H⟩ := H
    replace H : (if t118 = t121 then ((curtilagelaw09_do.f k 11 a1 a2).bind fun t122 => ((curtilagelaw09_do.f k 9 a0 t122).bind fun t123 => ((curtilagelaw09_do.f k 9 a0 a1).bind fun t124 => ((curtilagelaw09_do.f k 9 a0 a2).bind fun t125 => ((curtilagelaw09_do.f k 11 t124 t125).bind fun t126 => (if t123 = t126 then ((curtilagelaw09_do.f k 9 a1 a2).bind fun t127 => ((curtilagelaw09_do.f k 10 a0 t127).bind fun t128 => ((curtilagelaw09_do.f k 10 a0 a1).bind fun t129 => ((curtilagelaw09_do.f k 10 a0 a2).bind fun t130 => ((curtilagelaw09_do.f k 9 t129 t130).bind fun t131 => (curtilagelaw09_AluSpreads.j0 k a0 a1 a2 (t128 != t131))))))) else (curtilagelaw09_AluSpreads.j0 k a0 a1 a2 true))))))) else (curtilagelaw09_AluSpreads.j0 k a0 a1 a2 true)) = some r := H
    have A9 := Aside0.mk A90
    clear A90
    by_cases c10 : t118 = t121
    · rw [if_pos c10] at H
      have c10b0 : (t118 == t121) = true := beq_iff_eq.mpr c10
      have c10b1 : (t118 != t121) = false := bne_eq_false_iff_eq.mpr c10
      clear c10
      (first | rw [c10b0] | (simp only [i64_w, i32_w]; rw [c10b0]) | skip)
      replace H := Option.bind_eq_some_iff.mp H
      obtain ⟨t122, A110, H⟩ := H
      replace H : ((curtilagelaw09_do.f k 9 a0 t122).bind fun t123 => ((curtilagelaw09_do.f k 9 a0 a1).bind fun t124 => ((curtilagelaw09_do.f k 9 a0 a2).bind fun t125 => ((curtilagelaw09_do.f k 11 t124 t125).bind fun t126 => (if t123 = t126 then ((curtilagelaw09_do.f k 9 a1 a2).bind fun t127 => ((curtilagelaw09_do.f k 10 a0 t127).bind fun t128 => ((curtilagelaw09_do.f k 10 a0 a1).bind fun t129 => ((curtilagelaw09_do.f k 10 a0 a2).bind fun t130 => ((curtilagelaw09_do.f k 9 t129 t130).bind fun t131 => (curtilagelaw09_AluSpreads.j0 k a0 a1 a2 (t128 != t131))))))) else (curtilagelaw09_AluSpreads.j0 k a0 a1 a2 true)))))) = some r := H
      have A11 := Aside0.mk A110
      clear A110
      replace H := Option.bind_eq_some_iff.mp H
      obtain ⟨t123, A120, H⟩ := H
      replace H : ((curtilagelaw09_do.f k 9 a0 a1).bind fun t124 => ((curtilagelaw09_do.f k 9 a0 a2).bind fun t125 => ((curtilagelaw09_do.f k 11 t124 t125).bind fun t126 => (if t123 = t126 then ((curtilagelaw09_do.f k 9 a1 a2).bind fun t127 => ((curtilagelaw09_do.f k 10 a0 t127).bind fun t128 => ((curtilagelaw09_do.f k 10 a0 a1).bind fun t129 => ((curtilagelaw09_do.f k 10 a0 a2).bind fun t130 => ((curtilagelaw09_do.f k 9 t129 t130).bind fun t131 => (curtilagelaw09_AluSpreads.j0 k a0 a1 a2 (t128 != t131))))))) else (curtilagelaw09_AluSpreads.j0 k a0 a1 a2 true))))) = some r := H
      have A12 := Aside0.mk A120
      clear A120
      replace H := Option.bind_eq_some_iff.mp H
      obtain ⟨t124, A130, H⟩ := H
      replace H : ((curtilagelaw09_do.f k 9 a0 a2).bind fun t125 => ((curtilagelaw09_do.f k 11 t124 t125).bind fun t126 => (if t123 = t126 then ((curtilagelaw09_do.f k 9 a1 a2).bind fun t127 => ((curtilagelaw09_do.f k 10 a0 t127).bind fun t128 => ((curtilagelaw09_do.f k 10 a0 a1).bind fun t129 => ((curtilagelaw09_do.f k 10 a0 a2).bind fun t130 => ((curtilagelaw09_do.f k 9 t129 t130).bind fun t131 => (curtilagelaw09_AluSpreads.j0 k a0 a1 a2 (t128 != t131))))))) else (curtilagelaw09_AluSpreads.j0 k a0 a1 a2 true)))) = some r := H
      have A13 := Aside0.mk A130
      clear A130
      replace H := Option.bind_eq_some_iff.mp H
      obtain ⟨t125, A140, H⟩ := H
      replace H : ((curtilagelaw09_do.f k 11 t124 t125).bind fun t126 => (if t123 = t126 then ((curtilagelaw09_do.f k 9 a1 a2).bind fun t127 => ((curtilagelaw09_do.f k 10 a0 t127).bind fun t128 => ((curtilagelaw09_do.f k 10 a0 a1).bind fun t129 => ((curtilagelaw09_do.f k 10 a0 a2).bind fun t130 => ((curtilagelaw09_do.f k 9 t129 t130).bind fun t131 => (curtilagelaw09_AluSpreads.j0 k a0 a1 a2 (t128 != t131))))))) else (curtilagelaw09_AluSpreads.j0 k a0 a1 a2 true))) = some r := H
      have A14 := Aside0.mk A140
      clear A140
      replace H := Option.bind_eq_some_iff.mp H
      obtain ⟨t126, A150, H⟩ := H
      replace H : (if t123 = t126 then ((curtilagelaw09_do.f k 9 a1 a2).bind fun t127 => ((curtilagelaw09_do.f k 10 a0 t127).bind fun t128 => ((curtilagelaw09_do.f k 10 a0 a1).bind fun t129 => ((curtilagelaw09_do.f k 10 a0 a2).bind fun t130 => ((curtilagelaw09_do.f k 9 t129 t130).bind fun t131 => (curtilagelaw09_AluSpreads.j0 k a0 a1 a2 (t128 != t131))))))) else (curtilagelaw09_AluSpreads.j0 k a0 a1 a2 true)) = some r := H
      have A15 := Aside0.mk A150
      clear A150
      by_cases c16 : t123 = t126
      · rw [if_pos c16] at H
        have c16b0 : (t123 == t126) = true := beq_iff_eq.mpr c16
        have c16b1 : (t123 != t126) = false := bne_eq_false_iff_eq.mpr c16
        clear c16
        replace H := Option.bind_eq_some_iff.mp H
        obtain ⟨t127, A170, H⟩ := H
        replace H : ((curtilagelaw09_do.f k 10 a0 t127).bind fun t128 => ((curtilagelaw09_do.f k 10 a0 a1).bind fun t129 => ((curtilagelaw09_do.f k 10 a0 a2).bind fun t130 => ((curtilagelaw09_do.f k 9 t129 t130).bind fun t131 => (curtilagelaw09_AluSpreads.j0 k a0 a1 a2 (t128 != t131)))))) = some r := H
        have A17 := Aside0.mk A170
        clear A170
        replace H := Option.bind_eq_some_iff.mp H
        obtain ⟨t128, A180, H⟩ := H
        replace H : ((curtilagelaw09_do.f k 10 a0 a1).bind fun t129 => ((curtilagelaw09_do.f k 10 a0 a2).bind fun t130 => ((curtilagelaw09_do.f k 9 t129 t130).bind fun t131 => (curtilagelaw09_AluSpreads.j0 k a0 a1 a2 (t128 != t131))))) = some r := H
        have A18 := Aside0.mk A180
        clear A180
        replace H := Option.bind_eq_some_iff.mp H
        obtain ⟨t129, A190, H⟩ := H
        replace H : ((curtilagelaw09_do.f k 10 a0 a2).bind fun t130 => ((curtilagelaw09_do.f k 9 t129 t130).bind fun t131 => (curtilagelaw09_AluSpreads.j0 k a0 a1 a2 (t128 != t131)))) = some r := H
        have A19 := Aside0.mk A190
        clear A190
        replace H := Option.bind_eq_some_iff.mp H
        obtain ⟨t130, A200, H⟩ := H
        replace H : ((curtilagelaw09_do.f k 9 t129 t130).bind fun t131 => (curtilagelaw09_AluSpreads.j0 k a0 a1 a2 (t128 != t131))) = some r := H
        have A20 := Aside0.mk A200
        clear A200
        replace H := Option.bind_eq_some_iff.mp H
        obtain ⟨t131, A210, H⟩ := H
        replace H : (curtilagelaw09_AluSpreads.j0 k a0 a1 a2 (t128 != t131)) = some r := H
        have A21 := Aside0.mk A210
        clear A210
        have H' := Aside0.mk H
        clear H
        go_wp2_with (first | ((with_reducible refine gate_callee (f := 25) rfl ?_); refine goesL_ (some 13) rfl rfl Try.func25 (by kernel_rfl) rfl #[.int .i64 4, .int .u64 a1, .int .u64 a2] rfl (by (try simp only [List.map_toArray, List.map_cons, List.map_nil]); first | done | rfl | (simp only [List.length_drop, List.length_take]; rfl)) ?_; (with_reducible refine (curtilagelaw09_do.calls k 4 a1 a2 t117 _ A5.out).mono ?_); rintro e w' ⟨rfl, ⟨nd, rfl⟩⟩; refine ⟨_, rfl, ?_⟩) | ((with_reducible refine gate_callee (f := 25) rfl ?_); refine goesL_ (some 14) rfl rfl Try.func25 (by kernel_rfl) rfl #[.int .i64 6, .int .u64 a0, .int .u64 t117] rfl (by (try simp only [List.map_toArray, List.map_cons, List.map_nil]); first | done | rfl | (simp only [List.length_drop, List.length_take]; rfl)) ?_; (with_reducible refine (curtilagelaw09_do.calls k 6 a0 t117 t118 _ A6.out).mono ?_); rintro e w' ⟨rfl, ⟨nd, rfl⟩⟩; refine ⟨_, rfl, ?_⟩) | ((with_reducible refine gate_callee (f := 25) rfl ?_); refine goesL_ (some 17) rfl rfl Try.func25 (by kernel_rfl) rfl #[.int .i64 6, .int .u64 a0, .int .u64 a1] rfl (by (try simp only [List.map_toArray, List.map_cons, List.map_nil]); first | done | rfl | (simp only [List.length_drop, List.length_take]; rfl)) ?_; (with_reducible refine (curtilagelaw09_do.calls k 6 a0 a1 t119 _ A7.out).mono ?_); rintro e w' ⟨rfl, ⟨nd, rfl⟩⟩; refine ⟨_, rfl, ?_⟩) | ((with_reducible refine gate_callee (f := 25) rfl ?_); refine goesL_ (some 20) rfl rfl Try.func25 (by kernel_rfl) rfl #[.int .i64 6, .int .u64 a0, .int .u64 a2] rfl (by (try simp only [List.map_toArray, List.map_cons, List.map_nil]); first | done | rfl | (simp only [List.length_drop, List.length_take]; rfl)) ?_; (with_reducible refine (curtilagelaw09_do.calls k 6 a0 a2 t120 _ A8.out).mono ?_); rintro e w' ⟨rfl, ⟨nd, rfl⟩⟩; refine ⟨_, rfl, ?_⟩) | ((with_reducible refine gate_callee (f := 25) rfl ?_); refine goesL_ (some 21) rfl rfl Try.func25 (by kernel_rfl) rfl #[.int .i64 4, .int .u64 t119, .int .u64 t120] rfl (by (try simp only [List.map_toArray, List.map_cons, List.map_nil]); first | done | rfl | (simp only [List.length_drop, List.length_take]; rfl)) ?_; (with_reducible refine (curtilagelaw09_do.calls k 4 t119 t120 t121 _ A9.out).mono ?_); rintro e w' ⟨rfl, ⟨nd, rfl⟩⟩; refine ⟨_, rfl, ?_⟩) | (go_at_call 25; (with_reducible refine (curtilagelaw09_do.calls k 11 a1 a2 t122 _ A11.out).mono ?_); rintro e w' ⟨rfl, ⟨nd, rfl⟩⟩) | (go_at_call 25; (with_reducible refine (curtilagelaw09_do.calls k 9 a0 t122 t123 _ A12.out).mono ?_); rintro e w' ⟨rfl, ⟨nd, rfl⟩⟩) | (go_at_call 25; (with_reducible refine (curtilagelaw09_do.calls k 9 a0 a1 t124 _ A13.out).mono ?_); rintro e w' ⟨rfl, ⟨nd, rfl⟩⟩) | (go_at_call 25; (with_reducible refine (curtilagelaw09_do.calls k 9 a0 a2 t125 _ A14.out).mono ?_); rintro e w' ⟨rfl, ⟨nd, rfl⟩⟩) | (go_at_call 25; (with_reducible refine (curtilagelaw09_do.calls k 11 t124 t125 t126 _ A15.out).mono ?_); rintro e w' ⟨rfl, ⟨nd, rfl⟩⟩) | (go_at_call 25; (with_reducible refine (curtilagelaw09_do.calls k 9 a1 a2 t127 _ A17.out).mono ?_); rintro e w' ⟨rfl, ⟨nd, rfl⟩⟩) | (go_at_call 25; (with_reducible refine (curtilagelaw09_do.calls k 10 a0 t127 t128 _ A18.out).mono ?_); rintro e w' ⟨rfl, ⟨nd, rfl⟩⟩) | (go_at_call 25; (with_reducible refine (curtilagelaw09_do.calls k 10 a0 a1 t129 _ A19.out).mono ?_); rintro e w' ⟨rfl, ⟨nd, rfl⟩⟩) | (go_at_call 25; (with_reducible refine (curtilagelaw09_do.calls k 10 a0 a2 t130 _ A20.out).mono ?_); rintro e w' ⟨rfl, ⟨nd, rfl⟩⟩) | (go_at_call 25; (with_reducible refine (curtilagelaw09_do.calls k 9 t129 t130 t131 _ A21.out).mono ?_); rintro e w' ⟨rfl, ⟨nd, rfl⟩⟩))
        go_meet
        case rel => exact ⟨_, ((t128 != t131)), (by first | rfl | (simp; done) | (simp [*]; done)), H', ⟨by first | omega | exact Nat.le_refl _⟩, ⟨by repeat (first | (with_reducible first | exact HB.out | apply below_alloc | apply pw_below_drewN | apply below_drew1) | exact HB.out)⟩⟩
      · rw [if_neg c16] at H
        have c16b0 : (t123 == t126) = false := beq_eq_false_iff_ne.mpr c16
        have c16b1 : (t123 != t126) = true := bne_iff_ne.mpr c16
        have H' := Aside0.mk H
        clear H
        go_wp2_with (first | ((with_reducible refine gate_callee (f := 25) rfl ?_); refine goesL_ (some 13) rfl rfl Try.func25 (by kernel_rfl) rfl #[.int .i64 4, .int .u64 a1, .int .u64 a2] rfl (by (try simp only [List.map_toArray, List.map_cons, List.map_nil]); first | done | rfl | (simp only [List.length_drop, List.length_take]; rfl)) ?_; (with_reducible refine (curtilagelaw09_do.calls k 4 a1 a2 t117 _ A5.out).mono ?_); rintro e w' ⟨rfl, ⟨nd, rfl⟩⟩; refine ⟨_, rfl, ?_⟩) | ((with_reducible refine gate_callee (f := 25) rfl ?_); refine goesL_ (some 14) rfl rfl Try.func25 (by kernel_rfl) rfl #[.int .i64 6, .int .u64 a0, .int .u64 t117] rfl (by (try simp only [List.map_toArray, List.map_cons, List.map_nil]); first | done | rfl | (simp only [List.length_drop, List.length_take]; rfl)) ?_; (with_reducible refine (curtilagelaw09_do.calls k 6 a0 t117 t118 _ A6.out).mono ?_); rintro e w' ⟨rfl, ⟨nd, rfl⟩⟩; refine ⟨_, rfl, ?_⟩) | ((with_reducible refine gate_callee (f := 25) rfl ?_); refine goesL_ (some 17) rfl rfl Try.func25 (by kernel_rfl) rfl #[.int .i64 6, .int .u64 a0, .int .u64 a1] rfl (by (try simp only [List.map_toArray, List.map_cons, List.map_nil]); first | done | rfl | (simp only [List.length_drop, List.length_take]; rfl)) ?_; (with_reducible refine (curtilagelaw09_do.calls k 6 a0 a1 t119 _ A7.out).mono ?_); rintro e w' ⟨rfl, ⟨nd, rfl⟩⟩; refine ⟨_, rfl, ?_⟩) | ((with_reducible refine gate_callee (f := 25) rfl ?_); refine goesL_ (some 20) rfl rfl Try.func25 (by kernel_rfl) rfl #[.int .i64 6, .int .u64 a0, .int .u64 a2] rfl (by (try simp only [List.map_toArray, List.map_cons, List.map_nil]); first | done | rfl | (simp only [List.length_drop, List.length_take]; rfl)) ?_; (with_reducible refine (curtilagelaw09_do.calls k 6 a0 a2 t120 _ A8.out).mono ?_); rintro e w' ⟨rfl, ⟨nd, rfl⟩⟩; refine ⟨_, rfl, ?_⟩) | ((with_reducible refine gate_callee (f := 25) rfl ?_); refine goesL_ (some 21) rfl rfl Try.func25 (by kernel_rfl) rfl #[.int .i64 4, .int .u64 t119, .int .u64 t120] rfl (by (try simp only [List.map_toArray, List.map_cons, List.map_nil]); first | done | rfl | (simp only [List.length_drop, List.length_take]; rfl)) ?_; (with_reducible refine (curtilagelaw09_do.calls k 4 t119 t120 t121 _ A9.out).mono ?_); rintro e w' ⟨rfl, ⟨nd, rfl⟩⟩; refine ⟨_, rfl, ?_⟩) | (go_at_call 25; (with_reducible refine (curtilagelaw09_do.calls k 11 a1 a2 t122 _ A11.out).mono ?_); rintro e w' ⟨rfl, ⟨nd, rfl⟩⟩) | (go_at_call 25; (with_reducible refine (curtilagelaw09_do.calls k 9 a0 t122 t123 _ A12.out).mono ?_); rintro e w' ⟨rfl, ⟨nd, rfl⟩⟩) | (go_at_call 25; (with_reducible refine (curtilagelaw09_do.calls k 9 a0 a1 t124 _ A13.out).mono ?_); rintro e w' ⟨rfl, ⟨nd, rfl⟩⟩) | (go_at_call 25; (with_reducible refine (curtilagelaw09_do.calls k 9 a0 a2 t125 _ A14.out).mono ?_); rintro e w' ⟨rfl, ⟨nd, rfl⟩⟩) | (go_at_call 25; (with_reducible refine (curtilagelaw09_do.calls k 11 t124 t125 t126 _ A15.out).mono ?_); rintro e w' ⟨rfl, ⟨nd, rfl⟩⟩))
        go_meet
        case rel => exact ⟨_, (true), (by first | rfl | (simp; done) | (simp [*]; done)), H', ⟨by first | omega | exact Nat.le_refl _⟩, ⟨by repeat (first | (with_reducible first | exact HB.out | apply below_alloc | apply pw_below_drewN | apply below_drew1) | exact HB.out)⟩⟩
    · rw [if_neg c10] at H
      have c10b0 : (t118 == t121) = false := beq_eq_false_iff_ne.mpr c10
      have c10b1 : (t118 != t121) = true := bne_iff_ne.mpr c10
      (first | rw [c10b0] | (simp only [i64_w, i32_w]; rw [c10b0]) | skip)
      have H' := Aside0.mk H
      clear H
      go_wp2_with (first | ((with_reducible refine gate_callee (f := 25) rfl ?_); refine goesL_ (some 13) rfl rfl Try.func25 (by kernel_rfl) rfl #[.int .i64 4, .int .u64 a1, .int .u64 a2] rfl (by (try simp only [List.map_toArray, List.map_cons, List.map_nil]); first | done | rfl | (simp only [List.length_drop, List.length_take]; rfl)) ?_; (with_reducible refine (curtilagelaw09_do.calls k 4 a1 a2 t117 _ A5.out).mono ?_); rintro e w' ⟨rfl, ⟨nd, rfl⟩⟩; refine ⟨_, rfl, ?_⟩) | ((with_reducible refine gate_callee (f := 25) rfl ?_); refine goesL_ (some 14) rfl rfl Try.func25 (by kernel_rfl) rfl #[.int .i64 6, .int .u64 a0, .int .u64 t117] rfl (by (try simp only [List.map_toArray, List.map_cons, List.map_nil]); first | done | rfl | (simp only [List.length_drop, List.length_take]; rfl)) ?_; (with_reducible refine (curtilagelaw09_do.calls k 6 a0 t117 t118 _ A6.out).mono ?_); rintro e w' ⟨rfl, ⟨nd, rfl⟩⟩; refine ⟨_, rfl, ?_⟩) | ((with_reducible refine gate_callee (f := 25) rfl ?_); refine goesL_ (some 17) rfl rfl Try.func25 (by kernel_rfl) rfl #[.int .i64 6, .int .u64 a0, .int .u64 a1] rfl (by (try simp only [List.map_toArray, List.map_cons, List.map_nil]); first | done | rfl | (simp only [List.length_drop, List.length_take]; rfl)) ?_; (with_reducible refine (curtilagelaw09_do.calls k 6 a0 a1 t119 _ A7.out).mono ?_); rintro e w' ⟨rfl, ⟨nd, rfl⟩⟩; refine ⟨_, rfl, ?_⟩) | ((with_reducible refine gate_callee (f := 25) rfl ?_); refine goesL_ (some 20) rfl rfl Try.func25 (by kernel_rfl) rfl #[.int .i64 6, .int .u64 a0, .int .u64 a2] rfl (by (try simp only [List.map_toArray, List.map_cons, List.map_nil]); first | done | rfl | (simp only [List.length_drop, List.length_take]; rfl)) ?_; (with_reducible refine (curtilagelaw09_do.calls k 6 a0 a2 t120 _ A8.out).mono ?_); rintro e w' ⟨rfl, ⟨nd, rfl⟩⟩; refine ⟨_, rfl, ?_⟩) | ((with_reducible refine gate_callee (f := 25) rfl ?_); refine goesL_ (some 21) rfl rfl Try.func25 (by kernel_rfl) rfl #[.int .i64 4, .int .u64 t119, .int .u64 t120] rfl (by (try simp only [List.map_toArray, List.map_cons, List.map_nil]); first | done | rfl | (simp only [List.length_drop, List.length_take]; rfl)) ?_; (with_reducible refine (curtilagelaw09_do.calls k 4 t119 t120 t121 _ A9.out).mono ?_); rintro e w' ⟨rfl, ⟨nd, rfl⟩⟩; refine ⟨_, rfl, ?_⟩))
      go_meet
      case rel => exact ⟨_, (true), (by first | rfl | (simp; done) | (simp [*]; done)), H', ⟨by first | omega | exact Nat.le_refl _⟩, ⟨by repeat (first | (with_reducible first | exact HB.out | apply below_alloc | apply pw_below_drewN | apply below_drew1) | exact HB.out)⟩⟩
  case rest =>
    clear HC4
    try clear c1
    try clear c2
    try clear p2
    try clear c9
    try clear c10
    try clear c10b0
    try clear c10b1
    try clear c16
    try clear c16b0
    try clear c16b1
    obtain ⟨kq, x52_3, rfl, HA, HJ3, HB⟩ := hcut
    cases kq with
    | zero => exact absurd HA.out (by simp [curtilagelaw09_AluSpreads.j0])
    | succ kj3 =>
      have H := HA.out
      clear HA
      simp only [curtilagelaw09_AluSpreads.j0] at H
      by_cases c22 : x52_3 = true
      · subst c22
        have H1 : (some false) = some r := by rw [if_pos rfl] at H; exact H
        clear H
        have H := H1
        clear H1
        obtain rfl := Option.some.inj H
        go_wp2
        go_ret
        exact ⟨by first | rfl | (simp [errW_none, errW_some] <;> rfl) | (simp [*, errW_none, errW_some] <;> rfl), by repeat (first | (with_reducible first | exact HB.out | apply below_alloc | apply pw_below_drewN | apply below_drew1) | exact HB.out)⟩
      · replace c22 := Bool.eq_false_iff.mpr c22
        subst c22
        have H1 : ((some (([4, 6, 9, 10, 11] : List Int) : List Int)).bind fun y132 => (curtilagelaw09_AluSpreads.l0 kj3 a0 a1 a2 y132 (y132.length : Int) 0)) = some r := by rw [if_neg (show ¬ (false = true) by decide)] at H; exact H
        clear H
        have H := H1
        clear H1
        obtain ⟨y132, hy132⟩ : ∃ y_ : List Int, y_ = (([4, 6, 9, 10, 11] : List Int)) := ⟨_, rfl⟩
        replace H : (curtilagelaw09_AluSpreads.l0 kj3 a0 a1 a2 y132 (y132.length : Int) 0) = some r := by first | (rw [hy132]; with_reducible exact H) | (have H2_ := (Option.bind_some _ _).symm.trans H; rw [hy132]; with_reducible exact H2_) | (have H2_ := (Option.bind_some _ _).symm.trans H; with_reducible exact H2_) | with_reducible exact H | (rw [hy132]; exact H) | exact H
        have Ny132 := Aside0.mk hy132
        clear hy132
        have H' := Aside0.mk H
        clear H
        go_wp2_with (first | ((with_reducible refine gate_dst (N := 53) rfl ?_); refine Kd.R_lit (Kd.int .i64) _ 3 ?hg (N := 53) ?hd (xs := ([4, 6, 9, 10, 11] : List Int)) (inner := [.int .i64 4, .int .i64 6, .int .i64 9, .int .i64 10, .int .i64 11]) (ok := fun _ => True) (okp := fun _ => True) ?hr ?hp (fun _ hk => hk) trivial (Below.refl _ _) (Nat.le_refl _) (by simp) ?_; (case hd => rfl); (case hg => rfl); (case hr => first | (go_simp; done) | (go_simp; rfl)); (case hp => exact (Reps.one (show Kd.M (Kd.int .i64) _ _ _ 4 [.int .i64 4] from rfl) (Reps.one (show Kd.M (Kd.int .i64) _ _ _ 6 [.int .i64 6] from rfl) (Reps.one (show Kd.M (Kd.int .i64) _ _ _ 9 [.int .i64 9] from rfl) (Reps.one (show Kd.M (Kd.int .i64) _ _ _ 10 [.int .i64 10] from rfl) (Reps.one (show Kd.M (Kd.int .i64) _ _ _ 11 [.int .i64 11] from rfl) (Reps.none _ _))))))); intro v133 w23 ho24 hb hg_ hnew_; clear hg_ hnew_; (first | rw [← Ny132.out] at ho24 | (simp only [Int.reduceToNat] at ho24; rw [← Ny132.out] at ho24)); have n0_ := Aside0.mk (Kd.R_lower ho24 (below_size (by repeat (first | (with_reducible first | exact HB.out | apply below_alloc | apply pw_below_drewN | apply below_drew1) | exact HB.out)))); have n1_ := Aside0.mk (below_step (by repeat (first | (with_reducible first | exact HB.out | apply below_alloc | apply pw_below_drewN | apply below_drew1) | exact HB.out)) hb); clear HB; have HO134 := n0_; have HB := n1_; clear n0_ n1_; clear hb ho24; obtain ⟨Ao25, co25, eo25⟩ := Kd.R_slice HO134.out; subst eo25))
        go_loopg [55] kj3 (fun kq v55 w' => ∃ (x55_2 : Int), v55 = .int .i64 x55_2 ∧ Aside0 (curtilagelaw09_AluSpreads.l0 kq a0 a1 a2 y132 (y132.length : Int) x55_2 = some r) ∧ Aside0 (kq ≤ kj3) ∧ Aside0 (Kd.R (Kd.int .i64) 3 w' w.heap.size (fun _ => True) (.slice Ao25 y132.length co25) y132) ∧ Aside0 (Below w.heap.size w w'))
        case atStart => exact ⟨(0), (by first | rfl | (simp; done) | (simp [*]; done)), H', ⟨Nat.le_refl _⟩, ⟨by (with_reducible repeat (first | apply Kd.R_alloc | apply Kd.R_drewN | apply Kd.R_drew)); exact HO134.out⟩, ⟨by repeat (first | (with_reducible first | exact HB.out | apply below_alloc | apply pw_below_drewN | apply below_drew1) | exact HB.out)⟩⟩
        case round =>
          clear H'
          try clear c1
          try clear c2
          try clear p2
          try clear c9
          try clear c10
          try clear c10b0
          try clear c10b1
          try clear c16
          try clear c16b0
          try clear c16b1
          try clear c22
          try clear c25
          try clear p2
          obtain ⟨x55_2, rfl, HA, HK2, HO_53, HB⟩ := hrel
          cases gk with
          | zero => exact absurd HA.out (by simp [curtilagelaw09_AluSpreads.l0])
          | succ k2 =>
            have H := HA.out
            clear HA
            simp only [curtilagelaw09_AluSpreads.l0] at H
            by_cases c26 : x55_2 < (y132.length : Int)
            · rw [if_pos c26] at H
              have c26b0 : decide (x55_2 < (y132.length : Int)) = true := decide_eq_true c26
              clear c26
              by_cases c27 : 0 ≤ x55_2
              · rw [if_pos c27] at H
                have c27b0 : decide (0 ≤ x55_2) = true := decide_eq_true c27
                clear c27
                by_cases c28 : x55_2 < (y132.length : Int)
                · rw [if_pos c28] at H
                  have c28b0 : decide (x55_2 < (y132.length : Int)) = true := decide_eq_true c28
                  clear c28
                  replace H := Option.bind_eq_some_iff.mp H
                  obtain ⟨t136, A290, H⟩ := H
                  replace H : ((curtilagelaw09_do.f k2 (rd y132 x55_2) a1 a0).bind fun t137 => (if t136 = t137 then ((curtilagelaw09_do.f k2 (rd y132 x55_2) a1 a2).bind fun t138 => ((curtilagelaw09_do.f k2 (rd y132 x55_2) a0 t138).bind fun t139 => ((curtilagelaw09_do.f k2 (rd y132 x55_2) a0 a1).bind fun t140 => ((curtilagelaw09_do.f k2 (rd y132 x55_2) t140 a2).bind fun t141 => (if t139 = t141 then (curtilagelaw09_AluSpreads.l0 k2 a0 a1 a2 y132 (y132.length : Int) (wrap64 (x55_2 + 1))) else (some false)))))) else (some false))) = some r := H
                  have A29 := Aside0.mk A290
                  clear A290
                  replace H := Option.bind_eq_some_iff.mp H
                  obtain ⟨t137, A300, H⟩ := H
                  replace H : (if t136 = t137 then ((curtilagelaw09_do.f k2 (rd y132 x55_2) a1 a2).bind fun t138 => ((curtilagelaw09_do.f k2 (rd y132 x55_2) a0 t138).bind fun t139 => ((curtilagelaw09_do.f k2 (rd y132 x55_2) a0 a1).bind fun t140 => ((curtilagelaw09_do.f k2 (rd y132 x55_2) t140 a2).bind fun t141 => (if t139 = t141 then (curtilagelaw09_AluSpreads.l0 k2 a0 a1 a2 y132 (y132.length : Int) (wrap64 (x55_2 + 1))) else (some false)))))) else (some false)) = some r := H
                  have A30 := Aside0.mk A300
                  clear A300
                  by_cases c31 : t136 = t137
                  · rw [if_pos c31] at H
                    have c31b0 : (t136 == t137) = true := beq_iff_eq.mpr c31
                    have c31b1 : (t136 != t137) = false := bne_eq_false_iff_eq.mpr c31
                    clear c31
                    replace H := Option.bind_eq_some_iff.mp H
                    obtain ⟨t138, A320, H⟩ := H
                    replace H : ((curtilagelaw09_do.f k2 (rd y132 x55_2) a0 t138).bind fun t139 => ((curtilagelaw09_do.f k2 (rd y132 x55_2) a0 a1).bind fun t140 => ((curtilagelaw09_do.f k2 (rd y132 x55_2) t140 a2).bind fun t141 => (if t139 = t141 then (curtilagelaw09_AluSpreads.l0 k2 a0 a1 a2 y132 (y132.length : Int) (wrap64 (x55_2 + 1))) else (some false))))) = some r := H
                    have A32 := Aside0.mk A320
                    clear A320
                    replace H := Option.bind_eq_some_iff.mp H
                    obtain ⟨t139, A330, H⟩ := H
                    replace H : ((curtilagelaw09_do.f k2 (rd y132 x55_2) a0 a1).bind fun t140 => ((curtilagelaw09_do.f k2 (rd y132 x55_2) t140 a2).bind fun t141 => (if t139 = t141 then (curtilagelaw09_AluSpreads.l0 k2 a0 a1 a2 y132 (y132.length : Int) (wrap64 (x55_2 + 1))) else (some false)))) = some r := H
                    have A33 := Aside0.mk A330
                    clear A330
                    replace H := Option.bind_eq_some_iff.mp H
                    obtain ⟨t140, A340, H⟩ := H
                    replace H : ((curtilagelaw09_do.f k2 (rd y132 x55_2) t140 a2).bind fun t141 => (if t139 = t141 then (curtilagelaw09_AluSpreads.l0 k2 a0 a1 a2 y132 (y132.length : Int) (wrap64 (x55_2 + 1))) else (some false))) = some r := H
                    have A34 := Aside0.mk A340
                    clear A340
                    replace H := Option.bind_eq_some_iff.mp H
                    obtain ⟨t141, A350, H⟩ := H
                    replace H : (if t139 = t141 then (curtilagelaw09_AluSpreads.l0 k2 a0 a1 a2 y132 (y132.length : Int) (wrap64 (x55_2 + 1))) else (some false)) = some r := H
                    have A35 := Aside0.mk A350
                    clear A350
                    by_cases c36 : t139 = t141
                    · rw [if_pos c36] at H
                      have c36b0 : (t139 == t141) = true := beq_iff_eq.mpr c36
                      have c36b1 : (t139 != t141) = false := bne_eq_false_iff_eq.mpr c36
                      clear c36
                      have H' := Aside0.mk H
                      clear H
                      have p135 : 0 ≤ (x55_2 : Int) := of_decide_eq_true (by first | (with_reducible assumption) | assumption)
                      have q135 : x55_2 < (y132.length : Int) := of_decide_eq_true (by first | (with_reducible assumption) | assumption)
                      obtain ⟨ad135, e135, hx135_0⟩ := Kd.at_int (Kd.R_reads' HO_53.out).2.2 x55_2 p135 q135
                      cases e135
                      replace p135 := eq_true p135
                      replace q135 := eq_true q135
                      go_wp2_with (first | ((with_reducible refine gate_callee (f := 25) rfl ?_); refine goesL_ (some 62) rfl rfl Try.func25 (by kernel_rfl) rfl #[.int .i64 (rd y132 x55_2), .int .u64 a0, .int .u64 a1] rfl (by (try simp only [List.map_toArray, List.map_cons, List.map_nil]); first | done | rfl | (simp only [List.length_drop, List.length_take]; rfl)) ?_; (with_reducible refine (curtilagelaw09_do.calls k2 (rd y132 x55_2) a0 a1 t136 _ A29.out).mono ?_); rintro e w' ⟨rfl, ⟨nd, rfl⟩⟩; refine ⟨_, rfl, ?_⟩) | ((with_reducible refine gate_callee (f := 25) rfl ?_); refine goesL_ (some 66) rfl rfl Try.func25 (by kernel_rfl) rfl #[.int .i64 (rd y132 x55_2), .int .u64 a1, .int .u64 a0] rfl (by (try simp only [List.map_toArray, List.map_cons, List.map_nil]); first | done | rfl | (simp only [List.length_drop, List.length_take]; rfl)) ?_; (with_reducible refine (curtilagelaw09_do.calls k2 (rd y132 x55_2) a1 a0 t137 _ A30.out).mono ?_); rintro e w' ⟨rfl, ⟨nd, rfl⟩⟩; refine ⟨_, rfl, ?_⟩) | (go_at_call 25; (with_reducible refine (curtilagelaw09_do.calls k2 (rd y132 x55_2) a1 a2 t138 _ A32.out).mono ?_); rintro e w' ⟨rfl, ⟨nd, rfl⟩⟩) | (go_at_call 25; (with_reducible refine (curtilagelaw09_do.calls k2 (rd y132 x55_2) a0 t138 t139 _ A33.out).mono ?_); rintro e w' ⟨rfl, ⟨nd, rfl⟩⟩) | (go_at_call 25; (with_reducible refine (curtilagelaw09_do.calls k2 (rd y132 x55_2) a0 a1 t140 _ A34.out).mono ?_); rintro e w' ⟨rfl, ⟨nd, rfl⟩⟩) | (go_at_call 25; (with_reducible refine (curtilagelaw09_do.calls k2 (rd y132 x55_2) t140 a2 t141 _ A35.out).mono ?_); rintro e w' ⟨rfl, ⟨nd, rfl⟩⟩))
                      go_roundg k2
                      case measure => have := HJ3.out; have := HK2.out; omega
                      case rel => exact ⟨(wrap64 (x55_2 + 1)), (by first | rfl | (simp; done) | (simp [*]; done)), H', ⟨by have := HJ3.out; have := HK2.out; omega⟩, ⟨by (with_reducible repeat (first | apply Kd.R_alloc | apply Kd.R_drewN | apply Kd.R_drew)); exact HO_53.out⟩, ⟨by repeat (first | (with_reducible first | exact HB.out | apply below_alloc | apply pw_below_drewN | apply below_drew1) | exact HB.out)⟩⟩
                    · rw [if_neg c36] at H
                      have c36b0 : (t139 == t141) = false := beq_eq_false_iff_ne.mpr c36
                      have c36b1 : (t139 != t141) = true := bne_iff_ne.mpr c36
                      obtain rfl := Option.some.inj H
                      have p135 : 0 ≤ (x55_2 : Int) := of_decide_eq_true (by first | (with_reducible assumption) | assumption)
                      have q135 : x55_2 < (y132.length : Int) := of_decide_eq_true (by first | (with_reducible assumption) | assumption)
                      obtain ⟨ad135, e135, hx135_0⟩ := Kd.at_int (Kd.R_reads' HO_53.out).2.2 x55_2 p135 q135
                      cases e135
                      replace p135 := eq_true p135
                      replace q135 := eq_true q135
                      go_wp2_with (first | ((with_reducible refine gate_callee (f := 25) rfl ?_); refine goesL_ (some 62) rfl rfl Try.func25 (by kernel_rfl) rfl #[.int .i64 (rd y132 x55_2), .int .u64 a0, .int .u64 a1] rfl (by (try simp only [List.map_toArray, List.map_cons, List.map_nil]); first | done | rfl | (simp only [List.length_drop, List.length_take]; rfl)) ?_; (with_reducible refine (curtilagelaw09_do.calls k2 (rd y132 x55_2) a0 a1 t136 _ A29.out).mono ?_); rintro e w' ⟨rfl, ⟨nd, rfl⟩⟩; refine ⟨_, rfl, ?_⟩) | ((with_reducible refine gate_callee (f := 25) rfl ?_); refine goesL_ (some 66) rfl rfl Try.func25 (by kernel_rfl) rfl #[.int .i64 (rd y132 x55_2), .int .u64 a1, .int .u64 a0] rfl (by (try simp only [List.map_toArray, List.map_cons, List.map_nil]); first | done | rfl | (simp only [List.length_drop, List.length_take]; rfl)) ?_; (with_reducible refine (curtilagelaw09_do.calls k2 (rd y132 x55_2) a1 a0 t137 _ A30.out).mono ?_); rintro e w' ⟨rfl, ⟨nd, rfl⟩⟩; refine ⟨_, rfl, ?_⟩) | (go_at_call 25; (with_reducible refine (curtilagelaw09_do.calls k2 (rd y132 x55_2) a1 a2 t138 _ A32.out).mono ?_); rintro e w' ⟨rfl, ⟨nd, rfl⟩⟩) | (go_at_call 25; (with_reducible refine (curtilagelaw09_do.calls k2 (rd y132 x55_2) a0 t138 t139 _ A33.out).mono ?_); rintro e w' ⟨rfl, ⟨nd, rfl⟩⟩) | (go_at_call 25; (with_reducible refine (curtilagelaw09_do.calls k2 (rd y132 x55_2) a0 a1 t140 _ A34.out).mono ?_); rintro e w' ⟨rfl, ⟨nd, rfl⟩⟩) | (go_at_call 25; (with_reducible refine (curtilagelaw09_do.calls k2 (rd y132 x55_2) t140 a2 t141 _ A35.out).mono ?_); rintro e w' ⟨rfl, ⟨nd, rfl⟩⟩))
                      go_ret
                      exact ⟨by first | rfl | (simp [errW_none, errW_some] <;> rfl) | (simp [*, errW_none, errW_some] <;> rfl), by repeat (first | (with_reducible first | exact HB.out | apply below_alloc | apply pw_below_drewN | apply below_drew1) | exact HB.out)⟩
                  · rw [if_neg c31] at H
                    have c31b0 : (t136 == t137) = false := beq_eq_false_iff_ne.mpr c31
                    have c31b1 : (t136 != t137) = true := bne_iff_ne.mpr c31
                    obtain rfl := Option.some.inj H
                    have p135 : 0 ≤ (x55_2 : Int) := of_decide_eq_true (by first | (with_reducible assumption) | assumption)
                    have q135 : x55_2 < (y132.length : Int) := of_decide_eq_true (by first | (with_reducible assumption) | assumption)
                    obtain ⟨ad135, e135, hx135_0⟩ := Kd.at_int (Kd.R_reads' HO_53.out).2.2 x55_2 p135 q135
                    cases e135
                    replace p135 := eq_true p135
                    replace q135 := eq_true q135
                    go_wp2_with (first | ((with_reducible refine gate_callee (f := 25) rfl ?_); refine goesL_ (some 62) rfl rfl Try.func25 (by kernel_rfl) rfl #[.int .i64 (rd y132 x55_2), .int .u64 a0, .int .u64 a1] rfl (by (try simp only [List.map_toArray, List.map_cons, List.map_nil]); first | done | rfl | (simp only [List.length_drop, List.length_take]; rfl)) ?_; (with_reducible refine (curtilagelaw09_do.calls k2 (rd y132 x55_2) a0 a1 t136 _ A29.out).mono ?_); rintro e w' ⟨rfl, ⟨nd, rfl⟩⟩; refine ⟨_, rfl, ?_⟩) | ((with_reducible refine gate_callee (f := 25) rfl ?_); refine goesL_ (some 66) rfl rfl Try.func25 (by kernel_rfl) rfl #[.int .i64 (rd y132 x55_2), .int .u64 a1, .int .u64 a0] rfl (by (try simp only [List.map_toArray, List.map_cons, List.map_nil]); first | done | rfl | (simp only [List.length_drop, List.length_take]; rfl)) ?_; (with_reducible refine (curtilagelaw09_do.calls k2 (rd y132 x55_2) a1 a0 t137 _ A30.out).mono ?_); rintro e w' ⟨rfl, ⟨nd, rfl⟩⟩; refine ⟨_, rfl, ?_⟩))
                    go_ret
                    exact ⟨by first | rfl | (simp [errW_none, errW_some] <;> rfl) | (simp [*, errW_none, errW_some] <;> rfl), by repeat (first | (with_reducible first | exact HB.out | apply below_alloc | apply pw_below_drewN | apply below_drew1) | exact HB.out)⟩
                · rw [if_neg c28] at H
                  exact absurd H (by simp)
              · rw [if_neg c27] at H
                exact absurd H (by simp)
            · rw [if_neg c26] at H
              have c26b0 : decide (x55_2 < (y132.length : Int)) = false := decide_eq_false c26
              clear c26
              replace H := Option.bind_eq_some_iff.mp H
              obtain ⟨t142, A370, H⟩ := H
              replace H : ((curtilagelaw09_do.f k2 12 a0 (Int.tmod a2 63)).bind fun t143 => ((curtilagelaw09_do.f k2 12 a0 (Int.tmod a2 63)).bind fun t144 => ((curtilagelaw09_do.f k2 4 t143 t144).bind fun t145 => (if t142 = t145 then ((curtilagelaw09_do.f k2 12 a0 a2).bind fun t146 => ((curtilagelaw09_do.f k2 12 a0 (Int.tmod a2 64)).bind fun t147 => (if t146 = t147 then ((curtilagelaw09_awake.f k2).bind fun t148 => (some t148)) else (some false)))) else (some false))))) = some r := H
              have A37 := Aside0.mk A370
              clear A370
              replace H := Option.bind_eq_some_iff.mp H
              obtain ⟨t143, A380, H⟩ := H
              replace H : ((curtilagelaw09_do.f k2 12 a0 (Int.tmod a2 63)).bind fun t144 => ((curtilagelaw09_do.f k2 4 t143 t144).bind fun t145 => (if t142 = t145 then ((curtilagelaw09_do.f k2 12 a0 a2).bind fun t146 => ((curtilagelaw09_do.f k2 12 a0 (Int.tmod a2 64)).bind fun t147 => (if t146 = t147 then ((curtilagelaw09_awake.f k2).bind fun t148 => (some t148)) else (some false)))) else (some false)))) = some r := H
              have A38 := Aside0.mk A380
              clear A380
              replace H := Option.bind_eq_some_iff.mp H
              obtain ⟨t144, A390, H⟩ := H
              replace H : ((curtilagelaw09_do.f k2 4 t143 t144).bind fun t145 => (if t142 = t145 then ((curtilagelaw09_do.f k2 12 a0 a2).bind fun t146 => ((curtilagelaw09_do.f k2 12 a0 (Int.tmod a2 64)).bind fun t147 => (if t146 = t147 then ((curtilagelaw09_awake.f k2).bind fun t148 => (some t148)) else (some false)))) else (some false))) = some r := H
              have A39 := Aside0.mk A390
              clear A390
              replace H := Option.bind_eq_some_iff.mp H
              obtain ⟨t145, A400, H⟩ := H
              replace H : (if t142 = t145 then ((curtilagelaw09_do.f k2 12 a0 a2).bind fun t146 => ((curtilagelaw09_do.f k2 12 a0 (Int.tmod a2 64)).bind fun t147 => (if t146 = t147 then ((curtilagelaw09_awake.f k2).bind fun t148 => (some t148)) else (some false)))) else (some false)) = some r := H
              have A40 := Aside0.mk A400
              clear A400
              by_cases c41 : t142 = t145
              · rw [if_pos c41] at H
                have c41b0 : (t142 == t145) = true := beq_iff_eq.mpr c41
                have c41b1 : (t142 != t145) = false := bne_eq_false_iff_eq.mpr c41
                clear c41
                replace H := Option.bind_eq_some_iff.mp H
                obtain ⟨t146, A420, H⟩ := H
                replace H : ((curtilagelaw09_do.f k2 12 a0 (Int.tmod a2 64)).bind fun t147 => (if t146 = t147 then ((curtilagelaw09_awake.f k2).bind fun t148 => (some t148)) else (some false))) = some r := H
                have A42 := Aside0.mk A420
                clear A420
                replace H := Option.bind_eq_some_iff.mp H
                obtain ⟨t147, A430, H⟩ := H
                replace H : (if t146 = t147 then ((curtilagelaw09_awake.f k2).bind fun t148 => (some t148)) else (some false)) = some r := H
                have A43 := Aside0.mk A430
                clear A430
                by_cases c44 : t146 = t147
                · rw [if_pos c44] at H
                  have c44b0 : (t146 == t147) = true := beq_iff_eq.mpr c44
                  have c44b1 : (t146 != t147) = false := bne_eq_false_iff_eq.mpr c44
                  clear c44
                  replace H := Option.bind_eq_some_iff.mp H
                  obtain ⟨t148, A450, H⟩ := H
                  replace H : (some t148) = some r := H
                  have A45 := Aside0.mk A450
                  clear A450
                  obtain rfl := Option.some.inj H
                  go_wp2_with (first | ((with_reducible refine gate_callee (f := 25) rfl ?_); refine goesL_ (some 91) rfl rfl Try.func25 (by kernel_rfl) rfl #[.int .i64 12, .int .u64 a0, .int .u64 (IntKind.u64.wrap ((Int.tmod a2 63) + 1))] rfl (by (try simp only [List.map_toArray, List.map_cons, List.map_nil]); first | done | rfl | (simp only [List.length_drop, List.length_take]; rfl)) ?_; (with_reducible refine (curtilagelaw09_do.calls k2 12 a0 (IntKind.u64.wrap ((Int.tmod a2 63) + 1)) t142 _ A37.out).mono ?_); rintro e w' ⟨rfl, ⟨nd, rfl⟩⟩; refine ⟨_, rfl, ?_⟩) | ((with_reducible refine gate_callee (f := 25) rfl ?_); refine goesL_ (some 94) rfl rfl Try.func25 (by kernel_rfl) rfl #[.int .i64 12, .int .u64 a0, .int .u64 (Int.tmod a2 63)] rfl (by (try simp only [List.map_toArray, List.map_cons, List.map_nil]); first | done | rfl | (simp only [List.length_drop, List.length_take]; rfl)) ?_; (with_reducible refine (curtilagelaw09_do.calls k2 12 a0 (Int.tmod a2 63) t143 _ A38.out).mono ?_); rintro e w' ⟨rfl, ⟨nd, rfl⟩⟩; refine ⟨_, rfl, ?_⟩) | ((with_reducible refine gate_callee (f := 25) rfl ?_); refine goesL_ (some 97) rfl rfl Try.func25 (by kernel_rfl) rfl #[.int .i64 12, .int .u64 a0, .int .u64 (Int.tmod a2 63)] rfl (by (try simp only [List.map_toArray, List.map_cons, List.map_nil]); first | done | rfl | (simp only [List.length_drop, List.length_take]; rfl)) ?_; (with_reducible refine (curtilagelaw09_do.calls k2 12 a0 (Int.tmod a2 63) t144 _ A39.out).mono ?_); rintro e w' ⟨rfl, ⟨nd, rfl⟩⟩; refine ⟨_, rfl, ?_⟩) | ((with_reducible refine gate_callee (f := 25) rfl ?_); refine goesL_ (some 98) rfl rfl Try.func25 (by kernel_rfl) rfl #[.int .i64 4, .int .u64 t143, .int .u64 t144] rfl (by (try simp only [List.map_toArray, List.map_cons, List.map_nil]); first | done | rfl | (simp only [List.length_drop, List.length_take]; rfl)) ?_; (with_reducible refine (curtilagelaw09_do.calls k2 4 t143 t144 t145 _ A40.out).mono ?_); rintro e w' ⟨rfl, ⟨nd, rfl⟩⟩; refine ⟨_, rfl, ?_⟩) | (go_at_call 25; (with_reducible refine (curtilagelaw09_do.calls k2 12 a0 a2 t146 _ A42.out).mono ?_); rintro e w' ⟨rfl, ⟨nd, rfl⟩⟩) | (go_at_call 25; (with_reducible refine (curtilagelaw09_do.calls k2 12 a0 (Int.tmod a2 64) t147 _ A43.out).mono ?_); rintro e w' ⟨rfl, ⟨nd, rfl⟩⟩) | (go_at_call 26; (with_reducible refine (curtilagelaw09_awake.calls k2  t148 _ A45.out).mono ?_); rintro e w' ⟨rfl, ⟨nd, rfl⟩⟩))
                  go_ret
                  exact ⟨by first | rfl | (simp [errW_none, errW_some] <;> rfl) | (simp [*, errW_none, errW_some] <;> rfl), by repeat (first | (with_reducible first | exact HB.out | apply below_alloc | apply pw_below_drewN | apply below_drew1) | exact HB.out)⟩
                · rw [if_neg c44] at H
                  have c44b0 : (t146 == t147) = false := beq_eq_false_iff_ne.mpr c44
                  have c44b1 : (t146 != t147) = true := bne_iff_ne.mpr c44
                  obtain rfl := Option.some.inj H
                  go_wp2_with (first | ((with_reducible refine gate_callee (f := 25) rfl ?_); refine goesL_ (some 91) rfl rfl Try.func25 (by kernel_rfl) rfl #[.int .i64 12, .int .u64 a0, .int .u64 (IntKind.u64.wrap ((Int.tmod a2 63) + 1))] rfl (by (try simp only [List.map_toArray, List.map_cons, List.map_nil]); first | done | rfl | (simp only [List.length_drop, List.length_take]; rfl)) ?_; (with_reducible refine (curtilagelaw09_do.calls k2 12 a0 (IntKind.u64.wrap ((Int.tmod a2 63) + 1)) t142 _ A37.out).mono ?_); rintro e w' ⟨rfl, ⟨nd, rfl⟩⟩; refine ⟨_, rfl, ?_⟩) | ((with_reducible refine gate_callee (f := 25) rfl ?_); refine goesL_ (some 94) rfl rfl Try.func25 (by kernel_rfl) rfl #[.int .i64 12, .int .u64 a0, .int .u64 (Int.tmod a2 63)] rfl (by (try simp only [List.map_toArray, List.map_cons, List.map_nil]); first | done | rfl | (simp only [List.length_drop, List.length_take]; rfl)) ?_; (with_reducible refine (curtilagelaw09_do.calls k2 12 a0 (Int.tmod a2 63) t143 _ A38.out).mono ?_); rintro e w' ⟨rfl, ⟨nd, rfl⟩⟩; refine ⟨_, rfl, ?_⟩) | ((with_reducible refine gate_callee (f := 25) rfl ?_); refine goesL_ (some 97) rfl rfl Try.func25 (by kernel_rfl) rfl #[.int .i64 12, .int .u64 a0, .int .u64 (Int.tmod a2 63)] rfl (by (try simp only [List.map_toArray, List.map_cons, List.map_nil]); first | done | rfl | (simp only [List.length_drop, List.length_take]; rfl)) ?_; (with_reducible refine (curtilagelaw09_do.calls k2 12 a0 (Int.tmod a2 63) t144 _ A39.out).mono ?_); rintro e w' ⟨rfl, ⟨nd, rfl⟩⟩; refine ⟨_, rfl, ?_⟩) | ((with_reducible refine gate_callee (f := 25) rfl ?_); refine goesL_ (some 98) rfl rfl Try.func25 (by kernel_rfl) rfl #[.int .i64 4, .int .u64 t143, .int .u64 t144] rfl (by (try simp only [List.map_toArray, List.map_cons, List.map_nil]); first | done | rfl | (simp only [List.length_drop, List.length_take]; rfl)) ?_; (with_reducible refine (curtilagelaw09_do.calls k2 4 t143 t144 t145 _ A40.out).mono ?_); rintro e w' ⟨rfl, ⟨nd, rfl⟩⟩; refine ⟨_, rfl, ?_⟩) | (go_at_call 25; (with_reducible refine (curtilagelaw09_do.calls k2 12 a0 a2 t146 _ A42.out).mono ?_); rintro e w' ⟨rfl, ⟨nd, rfl⟩⟩) | (go_at_call 25; (with_reducible refine (curtilagelaw09_do.calls k2 12 a0 (Int.tmod a2 64) t147 _ A43.out).mono ?_); rintro e w' ⟨rfl, ⟨nd, rfl⟩⟩))
                  go_ret
                  exact ⟨by first | rfl | (simp [errW_none, errW_some] <;> rfl) | (simp [*, errW_none, errW_some] <;> rfl), by repeat (first | (with_reducible first | exact HB.out | apply below_alloc | apply pw_below_drewN | apply below_drew1) | exact HB.out)⟩
              · rw [if_neg c41] at H
                have c41b0 : (t142 == t145) = false := beq_eq_false_iff_ne.mpr c41
                have c41b1 : (t142 != t145) = true := bne_iff_ne.mpr c41
                obtain rfl := Option.some.inj H
                go_wp2_with (first | ((with_reducible refine gate_callee (f := 25) rfl ?_); refine goesL_ (some 91) rfl rfl Try.func25 (by kernel_rfl) rfl #[.int .i64 12, .int .u64 a0, .int .u64 (IntKind.u64.wrap ((Int.tmod a2 63) + 1))] rfl (by (try simp only [List.map_toArray, List.map_cons, List.map_nil]); first | done | rfl | (simp only [List.length_drop, List.length_take]; rfl)) ?_; (with_reducible refine (curtilagelaw09_do.calls k2 12 a0 (IntKind.u64.wrap ((Int.tmod a2 63) + 1)) t142 _ A37.out).mono ?_); rintro e w' ⟨rfl, ⟨nd, rfl⟩⟩; refine ⟨_, rfl, ?_⟩) | ((with_reducible refine gate_callee (f := 25) rfl ?_); refine goesL_ (some 94) rfl rfl Try.func25 (by kernel_rfl) rfl #[.int .i64 12, .int .u64 a0, .int .u64 (Int.tmod a2 63)] rfl (by (try simp only [List.map_toArray, List.map_cons, List.map_nil]); first | done | rfl | (simp only [List.length_drop, List.length_take]; rfl)) ?_; (with_reducible refine (curtilagelaw09_do.calls k2 12 a0 (Int.tmod a2 63) t143 _ A38.out).mono ?_); rintro e w' ⟨rfl, ⟨nd, rfl⟩⟩; refine ⟨_, rfl, ?_⟩) | ((with_reducible refine gate_callee (f := 25) rfl ?_); refine goesL_ (some 97) rfl rfl Try.func25 (by kernel_rfl) rfl #[.int .i64 12, .int .u64 a0, .int .u64 (Int.tmod a2 63)] rfl (by (try simp only [List.map_toArray, List.map_cons, List.map_nil]); first | done | rfl | (simp only [List.length_drop, List.length_take]; rfl)) ?_; (with_reducible refine (curtilagelaw09_do.calls k2 12 a0 (Int.tmod a2 63) t144 _ A39.out).mono ?_); rintro e w' ⟨rfl, ⟨nd, rfl⟩⟩; refine ⟨_, rfl, ?_⟩) | ((with_reducible refine gate_callee (f := 25) rfl ?_); refine goesL_ (some 98) rfl rfl Try.func25 (by kernel_rfl) rfl #[.int .i64 4, .int .u64 t143, .int .u64 t144] rfl (by (try simp only [List.map_toArray, List.map_cons, List.map_nil]); first | done | rfl | (simp only [List.length_drop, List.length_take]; rfl)) ?_; (with_reducible refine (curtilagelaw09_do.calls k2 4 t143 t144 t145 _ A40.out).mono ?_); rintro e w' ⟨rfl, ⟨nd, rfl⟩⟩; refine ⟨_, rfl, ?_⟩))
                go_ret
                exact ⟨by first | rfl | (simp [errW_none, errW_some] <;> rfl) | (simp [*, errW_none, errW_some] <;> rfl), by repeat (first | (with_reducible first | exact HB.out | apply below_alloc | apply pw_below_drewN | apply below_drew1) | exact HB.out)⟩

/-- THE ONE PURE STATEMENT of curtilagelaw09_AluSpreads: yours. -/
def curtilagelaw09_AluSpreads.Pure : Prop := ∀ (a0 : Int) (a1 : Int) (a2 : Int), (Lit.int .u64 a0).wf = true → (Lit.int .u64 a1).wf = true → (Lit.int .u64 a2).wf = true → ∃ k, curtilagelaw09_AluSpreads.f k a0 a1 a2 = some true
theorem curtilagelaw09_AluSpreads.walk (P : curtilagelaw09_AluSpreads.Pure) (a0 : Int) (a1 : Int) (a2 : Int) (w : World) (w0 : (Lit.int .u64 a0).wf = true) (w1 : (Lit.int .u64 a1).wf = true) (w2 : (Lit.int .u64 a2).wf = true) :
    Calls Try.prog 9 #[.int .u64 a0, .int .u64 a1, .int .u64 a2] w fun e w' => e = .returned (.bool true) ∧ Below w.heap.size w w' := by
  obtain ⟨k, h⟩ := P a0 a1 a2 w0 w1 w2
  refine (curtilagelaw09_AluSpreads.calls k a0 a1 a2 true w h).mono ?_
  rintro e w' ⟨rfl, hd⟩
  exact ⟨rfl, hd⟩

end Go.Proofs.Ytnocdfajeanmdaa.PAluSpreads
