-- PRINTED by print.py (a twelfth state) out of the translation. Not trusted: Lean checks it.
import Derived.Test.YtkajfadhlgmcjaaPBx0
namespace Go.Proofs.Ytkajfadhlgmcjaa.PB
open Go.RowKit Go.Proofs.YtkajfadhlgmcjaaW.PrintWords Go.Proofs.YtkajfadhlgmcjaaW.PrintLast Go.Proofs.YtkajfadhlgmcjaaW.PrintMore
attribute [local go_sem] max2_int min2_int max_two min_two max_three min_three max_four min_four   -- for this text's walks alone
set_option linter.unusedVariables false
set_option linter.unusedSimpArgs false

/-! The print's labels, and mine. -/
def toL (l : List S46) : Lab := l.map (fun p => (p.f0, p.f1))
def ofLab (l : Lab) : List S46 := l.map (fun p => ⟨p.1, p.2⟩)
theorem toL_ofLab (l : Lab) : toL (ofLab l) = l := by unfold toL ofLab; rw [List.map_map]; exact List.map_id _
theorem ofLab_toL (l : List S46) : ofLab (toL l) = l := by unfold toL ofLab; rw [List.map_map]; exact List.map_id _
theorem toL_len (l : List S46) : (toL l).length = l.length := List.length_map _
theorem ofLab_len (l : Lab) : (ofLab l).length = l.length := List.length_map _
theorem C_toL {w : World} {A : Option Addr} {l : List S46} (h : Kd.C k46 w A l.length l) : kPr.C w A (toL l).length (toL l) := by
  rw [toL_len]
  obtain ⟨h1, h2, h3⟩ := h
  refine ⟨by rw [toL_len], h2, fun hn => ?_⟩
  obtain ⟨ad, e, hc⟩ := h3 hn
  refine ⟨ad, e, fun j p hp => ?_⟩
  unfold toL at hp
  rw [List.getElem?_map] at hp
  cases hj : l[j]? with
  | none => rw [hj] at hp; simp at hp
  | some q =>
    rw [hj] at hp
    simp at hp
    obtain ⟨c, hc1, hc2, hc3⟩ := hc j q hj
    subst hp
    exact ⟨c, hc1, hc2, hc3⟩
theorem R_ofLab {w : World} {e base : Nat} {ok : Nat → Prop} {v : Value} {xs : Lab} (h : kPr.R e w base ok v xs) : Kd.R k46 e w base ok v (ofLab xs) := by
  obtain ⟨h1, inner, h2, h3, h4⟩ := h
  refine ⟨h1, inner, by rw [ofLab_len]; exact h2, by rw [ofLab_len]; exact h3, fun j p hp => ?_⟩
  unfold ofLab at hp
  rw [List.getElem?_map] at hp
  cases hj : xs[j]? with
  | none => rw [hj] at hp; simp at hp
  | some q =>
    rw [hj] at hp
    simp at hp
    subst hp
    exact h4 j q hj
/-! ### curtilagelaw02_few: function 15 -/
def curtilagelaw02_few.l0 : Nat → List (List (S46)) → Int → Int → Option (Bool)
  | 0, _, _, _ => none
  | k + 1, x5, x6, x7 => if x7 < x6 then (if 0 ≤ x7 then (if x7 < (x5.length : Int) then (if ((rd_L3 x5 x7).length : Int) > 40 then (some false) else (curtilagelaw02_few.l0 k x5 x6 (wrap64 (x7 + 1)))) else (none)) else (none)) else (some true)
def curtilagelaw02_few.f (k : Nat) (l0 : List (List (S46))) : Option (Bool) := curtilagelaw02_few.l0 k l0 (l0.length : Int) 0
theorem curtilagelaw02_few.mono_l : ∀ k, (∀ y0 y1 y2, LeO (curtilagelaw02_few.l0 k y0 y1 y2) (curtilagelaw02_few.l0 (k + 1) y0 y1 y2))
  | 0 => fun _ _ _ r h => by simp [curtilagelaw02_few.l0] at h
  | k + 1 => by
    have ih0 := curtilagelaw02_few.mono_l k
    · intro y0 y1 y2
      unfold curtilagelaw02_few.l0
      repeat' first
      | (with_reducible exact ih0 _ _ _)
      | (with_reducible exact LeO.refl _)
      | (with_reducible exact LeO.none _)
      | (with_reducible refine LeO.ite ?_ ?_)
      | (with_reducible refine LeO.bind ?_ (fun _ => ?_))
      | exact ih0 _ _ _
      | exact LeO.none _
      | refine LeO.ite ?_ ?_
      | refine LeO.bind ?_ (fun _ => ?_)
theorem curtilagelaw02_few.mono : ∀ a0 k, LeO (curtilagelaw02_few.f k a0) (curtilagelaw02_few.f (k + 1) a0) := by
  intro a0 k
  have ih0 := curtilagelaw02_few.mono_l k
  unfold curtilagelaw02_few.f
  repeat' first
      | (with_reducible exact ih0 _ _ _)
      | (with_reducible exact LeO.refl _)
      | (with_reducible exact LeO.none _)
      | (with_reducible refine LeO.ite ?_ ?_)
      | (with_reducible refine LeO.bind ?_ (fun _ => ?_))
      | exact ih0 _ _ _
      | exact LeO.none _
      | refine LeO.ite ?_ ?_
      | refine LeO.bind ?_ (fun _ => ?_)
set_option maxHeartbeats 8000000 in
set_option maxRecDepth 100000 in
theorem curtilagelaw02_few.calls (k : Nat) (A0 : Option Addr) (c0 : Nat) (l0 : List (List (S46))) (r : Bool) (w : World) (hr0 : Kd.C (Kd.slice 46 k46) w A0 l0.length l0) (hc0 : l0.length ≤ c0) (h : curtilagelaw02_few.f k l0 = some r) :
    Calls Try.prog 15 #[.slice A0 l0.length c0] w fun e w' => e = .returned (.bool r) ∧ Drawn0 w w' := by
  have HR0 := Aside0.mk hr0
  have HC0 := Aside0.mk hc0
  clear hr0 hc0
  have H : (curtilagelaw02_few.l0 k l0 (l0.length : Int) 0) = some r := h
  clear h
  have H' := Aside0.mk H
  clear H
  go_enter Try.func15, Try.ntmps15
  go_wp2
  go_loopg [7] k (fun kq v7 w' => ∃ (x7_1 : Int), v7 = .int .i64 x7_1 ∧ Aside0 (curtilagelaw02_few.l0 kq l0 (l0.length : Int) x7_1 = some r) ∧ Aside0 (kq ≤ k) ∧ Drawn0 w w')
  case atStart => exact ⟨(0), (by first | rfl | (simp; done) | (simp [*]; done)), H', ⟨Nat.le_refl _⟩, by repeat (first | exact Drawn0.refl _ | apply Drawn0.step)⟩
  case round =>
    clear H'
    try clear c1
    obtain ⟨x7_1, rfl, HA, HK1, ⟨m1, rfl⟩⟩ := hrel
    cases gk with
    | zero => exact absurd HA.out (by simp [curtilagelaw02_few.l0])
    | succ k1 =>
      have H := HA.out
      clear HA
      simp only [curtilagelaw02_few.l0] at H
      by_cases c2 : x7_1 < (l0.length : Int)
      · rw [if_pos c2] at H
        have c2b0 : decide (x7_1 < (l0.length : Int)) = true := decide_eq_true c2
        clear c2
        by_cases c3 : 0 ≤ x7_1
        · rw [if_pos c3] at H
          have c3b0 : decide (0 ≤ x7_1) = true := decide_eq_true c3
          clear c3
          by_cases c4 : x7_1 < (l0.length : Int)
          · rw [if_pos c4] at H
            have c4b0 : decide (x7_1 < (l0.length : Int)) = true := decide_eq_true c4
            clear c4
            by_cases c5 : ((rd_L3 l0 x7_1).length : Int) > 40
            · rw [if_pos c5] at H
              have c5b0 : decide (40 < ((rd_L3 l0 x7_1).length : Int)) = true := decide_eq_true c5
              have c5b1 : decide (40 < (rd_L3 l0 x7_1).length) = true := decide_eq_true (by omega)
              clear c5
              obtain rfl := Option.some.inj H
              have p101 : 0 ≤ (x7_1 : Int) := of_decide_eq_true (by first | (with_reducible assumption) | assumption)
              have q101 : x7_1 < (l0.length : Int) := of_decide_eq_true (by first | (with_reducible assumption) | assumption)
              obtain ⟨ad101, A101_0, c101_0, e101, hx101_0, hl101_0, hi101_0⟩ := at_L3 HR0.out x7_1 p101 q101
              cases e101
              have HR101_0 := Aside0.mk hi101_0
              have HC101_0 := Aside0.mk hl101_0
              clear hi101_0 hl101_0
              replace p101 := eq_true p101
              replace q101 := eq_true q101
              go_wp2
              go_ret
              exact ⟨by first | rfl | (simp; done) | (simp [*]; done), by repeat (first | exact Drawn0.refl _ | apply Drawn0.step)⟩
            · rw [if_neg c5] at H
              have c5b0 : decide (40 < ((rd_L3 l0 x7_1).length : Int)) = false := decide_eq_false c5
              have c5b1 : decide (40 < (rd_L3 l0 x7_1).length) = false := decide_eq_false (by omega)
              clear c5
              have H' := Aside0.mk H
              clear H
              have p101 : 0 ≤ (x7_1 : Int) := of_decide_eq_true (by first | (with_reducible assumption) | assumption)
              have q101 : x7_1 < (l0.length : Int) := of_decide_eq_true (by first | (with_reducible assumption) | assumption)
              obtain ⟨ad101, A101_0, c101_0, e101, hx101_0, hl101_0, hi101_0⟩ := at_L3 HR0.out x7_1 p101 q101
              cases e101
              have HR101_0 := Aside0.mk hi101_0
              have HC101_0 := Aside0.mk hl101_0
              clear hi101_0 hl101_0
              replace p101 := eq_true p101
              replace q101 := eq_true q101
              go_wp2
              go_roundg k1
              case measure => have := HK1.out; omega
              case rel => exact ⟨(wrap64 (x7_1 + 1)), (by first | rfl | (simp; done) | (simp [*]; done)), H', ⟨by have := HK1.out; omega⟩, by repeat (first | exact Drawn0.refl _ | apply Drawn0.step)⟩
          · rw [if_neg c4] at H
            exact absurd H (by simp)
        · rw [if_neg c3] at H
          exact absurd H (by simp)
      · rw [if_neg c2] at H
        have c2b0 : decide (x7_1 < (l0.length : Int)) = false := decide_eq_false c2
        clear c2
        obtain rfl := Option.some.inj H
        go_wp2
        go_ret
        exact ⟨by first | rfl | (simp; done) | (simp [*]; done), by repeat (first | exact Drawn0.refl _ | apply Drawn0.step)⟩

/-! ### curtilageref01_Fit: function 56 -/
def curtilageref01_Fit.f (a0 : Int) : Option (Bool) := if a0 ≥ 0 then (some (decide (a0 ≤ 5))) else (some false)
set_option maxHeartbeats 8000000 in
set_option maxRecDepth 100000 in
theorem curtilageref01_Fit.calls (a0 : Int) (r : Bool) (w : World) (h : curtilageref01_Fit.f a0 = some r) :
    Calls Try.prog 56 #[.int .i64 a0] w fun e w' => e = .returned (.bool r) ∧ Drawn0 w w' := by
  have H : (if a0 ≥ 0 then (some (decide (a0 ≤ 5))) else (some false)) = some r := h
  clear h
  by_cases c2 : a0 ≥ 0
  · rw [if_pos c2] at H
    have c2b0 : decide (0 ≤ a0) = true := decide_eq_true c2
    clear c2
    obtain rfl := Option.some.inj H
    go_enter Try.func56, Try.ntmps56
    go_wp2
    go_ret
    exact ⟨by first | rfl | (simp; done) | (simp [*]; done), by repeat (first | exact Drawn0.refl _ | apply Drawn0.step)⟩
  · rw [if_neg c2] at H
    have c2b0 : decide (0 ≤ a0) = false := decide_eq_false c2
    clear c2
    obtain rfl := Option.some.inj H
    go_enter Try.func56, Try.ntmps56
    go_wp2
    go_ret
    exact ⟨by first | rfl | (simp; done) | (simp [*]; done), by repeat (first | exact Drawn0.refl _ | apply Drawn0.step)⟩

end Go.Proofs.Ytkajfadhlgmcjaa.PB
