-- PRINTED by print.py (a twelfth state) out of the translation. Not trusted: Lean checks it.
import Derived.Test.YtkajfadhlgmcjaaPSx0
import Derived.Test.YtkajfadhlgmcjaaPSx2
namespace Go.Proofs.Ytkajfadhlgmcjaa.PS
open Go.RowKit Go.Proofs.YtkajfadhlgmcjaaW.PrintWords Go.Proofs.YtkajfadhlgmcjaaW.PrintLast Go.Proofs.YtkajfadhlgmcjaaW.PrintMore
attribute [local go_sem] max2_int min2_int max_two min_two max_three min_three max_four min_four   -- for this text's walks alone
set_option linter.unusedVariables false
set_option linter.unusedSimpArgs false

/-! ### curtilagelaw02_LabelSets: function 14 -/
mutual
def curtilagelaw02_LabelSets.j0 : Nat → List (S46) → Int → Int → Int → Bool → Option (Bool)
  | 0, _, _, _, _, _ => none
  | k + 1, x0, x1, x2, x3, x27 => if x27 = true then ((curtilagelaw02_awake.f).bind fun t114 => (some t114)) else ((label_Set.f x0 x1 x3).bind fun bt115 => (if bt115.2 = 0 then ((label_Get.f bt115.1 x1).bind fun t121 => (if t121 = x3 then (if x1 = x2 then (curtilagelaw02_LabelSets.j1 k x0 x1 bt115.1 false) else ((label_Get.f bt115.1 x2).bind fun t122 => ((label_Get.f x0 x2).bind fun t123 => (curtilagelaw02_LabelSets.j1 k x0 x1 bt115.1 (t122 != t123))))) else (curtilagelaw02_LabelSets.j1 k x0 x1 bt115.1 true))) else ((curtilageref02_Same.f k bt115.1 x0).bind fun t119 => (if t119 = true then ((curtilagelaw02_awake.f).bind fun t120 => (some t120)) else (some false)))))
def curtilagelaw02_LabelSets.j1 : Nat → List (S46) → Int → List (S46) → Bool → Option (Bool)
  | 0, _, _, _, _ => none
  | k + 1, x0, x1, x9, x62 => if x62 = true then (some false) else ((label_Get.f x0 x1).bind fun t124 => ((label_Set.f x9 x1 t124).bind fun bt125 => (if bt125.2 = 0 then ((curtilageref02_Same.f k bt125.1 x0).bind fun t129 => (curtilagelaw02_LabelSets.j2 k x0 (!t129))) else (curtilagelaw02_LabelSets.j2 k x0 false))))
def curtilagelaw02_LabelSets.j2 : Nat → List (S46) → Bool → Option (Bool)
  | 0, _, _ => none
  | k + 1, x0, x79 => if x79 = true then (some false) else (curtilagelaw02_LabelSets.l0 k x0 false false x0 (x0.length : Int) 0)
def curtilagelaw02_LabelSets.l0 : Nat → List (S46) → Bool → Bool → List (S46) → Int → Int → Option (Bool)
  | 0, _, _, _, _, _, _ => none
  | k + 1, x0, x13, x14, x80, x81, x82 => if x82 < x81 then (if 0 ≤ x82 then (if x82 < (x80.length : Int) then (if x13 = true then (if x14 = true then (curtilagelaw02_LabelSets.l0 k x0 true true x80 x81 (wrap64 (x82 + 1))) else (curtilagelaw02_LabelSets.l0 k x0 true (((rd_T46 x80 x82).f1) == 0) x80 x81 (wrap64 (x82 + 1)))) else (if x14 = true then (curtilagelaw02_LabelSets.l0 k x0 (((rd_T46 x80 x82).f1) == 5) true x80 x81 (wrap64 (x82 + 1))) else (curtilagelaw02_LabelSets.l0 k x0 (((rd_T46 x80 x82).f1) == 5) (((rd_T46 x80 x82).f1) == 0) x80 x81 (wrap64 (x82 + 1))))) else (none)) else (none)) else ((label_Raise.f x0).bind fun t132 => ((label_Lower.f x0).bind fun t135 => (if x13 = true then (if x14 = true then ((label_Owned.f k t132).bind fun t138 => (if (t138.length : Int) = 0 then ((label_Leq.f x0 t132).bind fun t141 => (if t141 = true then ((label_Leq.f t135 x0).bind fun t142 => (if t142 = true then ((curtilagelaw02_awake.f).bind fun t143 => (some t143)) else (some false))) else (some false))) else (some false))) else ((label_Raise.f t135).bind fun t144 => ((curtilageref02_Same.f k t144 x0).bind fun t147 => (if t147 = true then ((label_Owned.f k t132).bind fun t148 => (if (t148.length : Int) = 0 then ((label_Leq.f x0 t132).bind fun t151 => (if t151 = true then ((label_Leq.f t135 x0).bind fun t152 => (if t152 = true then ((curtilagelaw02_awake.f).bind fun t153 => (some t153)) else (some false))) else (some false))) else (some false))) else (some false))))) else ((label_Lower.f t132).bind fun t154 => ((curtilageref02_Same.f k t154 x0).bind fun t157 => (if t157 = true then (if x14 = true then ((label_Owned.f k t132).bind fun t158 => (if (t158.length : Int) = 0 then ((label_Leq.f x0 t132).bind fun t161 => (if t161 = true then ((label_Leq.f t135 x0).bind fun t162 => (if t162 = true then ((curtilagelaw02_awake.f).bind fun t163 => (some t163)) else (some false))) else (some false))) else (some false))) else ((label_Raise.f t135).bind fun t164 => ((curtilageref02_Same.f k t164 x0).bind fun t167 => (if t167 = true then ((label_Owned.f k t132).bind fun t168 => (if (t168.length : Int) = 0 then ((label_Leq.f x0 t132).bind fun t171 => (if t171 = true then ((label_Leq.f t135 x0).bind fun t172 => (if t172 = true then ((curtilagelaw02_awake.f).bind fun t173 => (some t173)) else (some false))) else (some false))) else (some false))) else (some false))))) else (some false)))))))
end
def curtilagelaw02_LabelSets.f (k : Nat) (l0 : List (S46)) (a1 : Int) (a2 : Int) (a3 : Int) : Option (Bool) := (curtilagelaw02_few.f k (([l0] : List (List (S46))))).bind fun t112 => (if t112 = true then ((curtilageref02_Fit.f l0).bind fun t113 => (curtilagelaw02_LabelSets.j0 k l0 a1 a2 a3 (!t113))) else (curtilagelaw02_LabelSets.j0 k l0 a1 a2 a3 true))
theorem curtilagelaw02_LabelSets.mono_l : ∀ k, (∀ y0 y1 y2 y3 y4, LeO (curtilagelaw02_LabelSets.j0 k y0 y1 y2 y3 y4) (curtilagelaw02_LabelSets.j0 (k + 1) y0 y1 y2 y3 y4)) ∧ (∀ y0 y1 y2 y3, LeO (curtilagelaw02_LabelSets.j1 k y0 y1 y2 y3) (curtilagelaw02_LabelSets.j1 (k + 1) y0 y1 y2 y3)) ∧ (∀ y0 y1, LeO (curtilagelaw02_LabelSets.j2 k y0 y1) (curtilagelaw02_LabelSets.j2 (k + 1) y0 y1)) ∧ (∀ y0 y1 y2 y3 y4 y5, LeO (curtilagelaw02_LabelSets.l0 k y0 y1 y2 y3 y4 y5) (curtilagelaw02_LabelSets.l0 (k + 1) y0 y1 y2 y3 y4 y5))
  | 0 => ⟨fun _ _ _ _ _ r h => by simp [curtilagelaw02_LabelSets.j0] at h, fun _ _ _ _ r h => by simp [curtilagelaw02_LabelSets.j1] at h, fun _ _ r h => by simp [curtilagelaw02_LabelSets.j2] at h, fun _ _ _ _ _ _ r h => by simp [curtilagelaw02_LabelSets.l0] at h⟩
  | k + 1 => by
    obtain ⟨ih0, ih1, ih2, ih3⟩ := curtilagelaw02_LabelSets.mono_l k
    refine ⟨?_, ?_, ?_, ?_⟩
    · intro y0 y1 y2 y3 y4
      unfold curtilagelaw02_LabelSets.j0
      repeat' first
      | (with_reducible exact ih0 _ _ _ _ _)
      | (with_reducible exact ih1 _ _ _ _)
      | (with_reducible exact ih2 _ _)
      | (with_reducible exact ih3 _ _ _ _ _ _)
      | (with_reducible exact curtilagelaw02_few.mono _ _)
      | (with_reducible exact curtilageref02_Same.mono _ _ _)
      | (with_reducible exact label_Owned.mono _ _)
      | (with_reducible exact LeO.refl _)
      | (with_reducible exact LeO.none _)
      | (with_reducible refine LeO.ite ?_ ?_)
      | (with_reducible refine LeO.bind ?_ (fun _ => ?_))
      | exact ih0 _ _ _ _ _
      | exact ih1 _ _ _ _
      | exact ih2 _ _
      | exact ih3 _ _ _ _ _ _
      | exact curtilagelaw02_few.mono _ _
      | exact curtilageref02_Same.mono _ _ _
      | exact label_Owned.mono _ _
      | exact LeO.none _
      | refine LeO.ite ?_ ?_
      | refine LeO.bind ?_ (fun _ => ?_)
    · intro y0 y1 y2 y3
      unfold curtilagelaw02_LabelSets.j1
      repeat' first
      | (with_reducible exact ih0 _ _ _ _ _)
      | (with_reducible exact ih1 _ _ _ _)
      | (with_reducible exact ih2 _ _)
      | (with_reducible exact ih3 _ _ _ _ _ _)
      | (with_reducible exact curtilagelaw02_few.mono _ _)
      | (with_reducible exact curtilageref02_Same.mono _ _ _)
      | (with_reducible exact label_Owned.mono _ _)
      | (with_reducible exact LeO.refl _)
      | (with_reducible exact LeO.none _)
      | (with_reducible refine LeO.ite ?_ ?_)
      | (with_reducible refine LeO.bind ?_ (fun _ => ?_))
      | exact ih0 _ _ _ _ _
      | exact ih1 _ _ _ _
      | exact ih2 _ _
      | exact ih3 _ _ _ _ _ _
      | exact curtilagelaw02_few.mono _ _
      | exact curtilageref02_Same.mono _ _ _
      | exact label_Owned.mono _ _
      | exact LeO.none _
      | refine LeO.ite ?_ ?_
      | refine LeO.bind ?_ (fun _ => ?_)
    · intro y0 y1
      unfold curtilagelaw02_LabelSets.j2
      repeat' first
      | (with_reducible exact ih0 _ _ _ _ _)
      | (with_reducible exact ih1 _ _ _ _)
      | (with_reducible exact ih2 _ _)
      | (with_reducible exact ih3 _ _ _ _ _ _)
      | (with_reducible exact curtilagelaw02_few.mono _ _)
      | (with_reducible exact curtilageref02_Same.mono _ _ _)
      | (with_reducible exact label_Owned.mono _ _)
      | (with_reducible exact LeO.refl _)
      | (with_reducible exact LeO.none _)
      | (with_reducible refine LeO.ite ?_ ?_)
      | (with_reducible refine LeO.bind ?_ (fun _ => ?_))
      | exact ih0 _ _ _ _ _
      | exact ih1 _ _ _ _
      | exact ih2 _ _
      | exact ih3 _ _ _ _ _ _
      | exact curtilagelaw02_few.mono _ _
      | exact curtilageref02_Same.mono _ _ _
      | exact label_Owned.mono _ _
      | exact LeO.none _
      | refine LeO.ite ?_ ?_
      | refine LeO.bind ?_ (fun _ => ?_)
    · intro y0 y1 y2 y3 y4 y5
      unfold curtilagelaw02_LabelSets.l0
      repeat' first
      | (with_reducible exact ih0 _ _ _ _ _)
      | (with_reducible exact ih1 _ _ _ _)
      | (with_reducible exact ih2 _ _)
      | (with_reducible exact ih3 _ _ _ _ _ _)
      | (with_reducible exact curtilagelaw02_few.mono _ _)
      | (with_reducible exact curtilageref02_Same.mono _ _ _)
      | (with_reducible exact label_Owned.mono _ _)
      | (with_reducible exact LeO.refl _)
      | (with_reducible exact LeO.none _)
      | (with_reducible refine LeO.ite ?_ ?_)
      | (with_reducible refine LeO.bind ?_ (fun _ => ?_))
      | exact ih0 _ _ _ _ _
      | exact ih1 _ _ _ _
      | exact ih2 _ _
      | exact ih3 _ _ _ _ _ _
      | exact curtilagelaw02_few.mono _ _
      | exact curtilageref02_Same.mono _ _ _
      | exact label_Owned.mono _ _
      | exact LeO.none _
      | refine LeO.ite ?_ ?_
      | refine LeO.bind ?_ (fun _ => ?_)
theorem curtilagelaw02_LabelSets.mono : ∀ a0 a1 a2 a3 k, LeO (curtilagelaw02_LabelSets.f k a0 a1 a2 a3) (curtilagelaw02_LabelSets.f (k + 1) a0 a1 a2 a3) := by
  intro a0 a1 a2 a3 k
  obtain ⟨ih0, ih1, ih2, ih3⟩ := curtilagelaw02_LabelSets.mono_l k
  unfold curtilagelaw02_LabelSets.f
  repeat' first
      | (with_reducible exact ih0 _ _ _ _ _)
      | (with_reducible exact ih1 _ _ _ _)
      | (with_reducible exact ih2 _ _)
      | (with_reducible exact ih3 _ _ _ _ _ _)
      | (with_reducible exact curtilagelaw02_few.mono _ _)
      | (with_reducible exact curtilageref02_Same.mono _ _ _)
      | (with_reducible exact label_Owned.mono _ _)
      | (with_reducible exact LeO.refl _)
      | (with_reducible exact LeO.none _)
      | (with_reducible refine LeO.ite ?_ ?_)
      | (with_reducible refine LeO.bind ?_ (fun _ => ?_))
      | exact ih0 _ _ _ _ _
      | exact ih1 _ _ _ _
      | exact ih2 _ _
      | exact ih3 _ _ _ _ _ _
      | exact curtilagelaw02_few.mono _ _
      | exact curtilageref02_Same.mono _ _ _
      | exact label_Owned.mono _ _
      | exact LeO.none _
      | refine LeO.ite ?_ ?_
      | refine LeO.bind ?_ (fun _ => ?_)
end Go.Proofs.Ytkajfadhlgmcjaa.PS
