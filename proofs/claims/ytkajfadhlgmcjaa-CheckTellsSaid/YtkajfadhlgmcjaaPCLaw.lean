import Derived.Test.YtkajfadhlgmcjaaPCRef
import Derived.Test.YtkajfadhlgmcjaaPCx3
import Derived.Test.YtkajfadhlgmcjaaPCx2
import Derived.Test.YtkajfadhlgmcjaaPCx2
import Derived.Test.YtkajfadhlgmcjaaPCx2
import Derived.Test.YtkajfadhlgmcjaaPCx2
namespace Go.Proofs.Ytkajfadhlgmcjaa.PC
open Go Go.RowKit Go.Proofs.Ytkajfadhlgmcjaa Go.Proofs.YtkajfadhlgmcjaaW.PrintWords Go.Proofs.YtkajfadhlgmcjaaW.PrintLast Go.Proofs.YtkajfadhlgmcjaaW.PrintMore
set_option linter.unusedVariables false
set_option linter.unusedSimpArgs false
/-! What the printed functions of chapter 3 say of labels. -/
theorem joinB_len (a b : Lab) : (joinB a b).length ≤ a.length + b.length := foldB_len _ _ _
theorem meetB_len (a b : Lab) : (meetB a b).length ≤ a.length + b.length := foldB_len _ _ _
theorem raiseB_len (a : Lab) : (raiseB a).length ≤ a.length := foldB_len _ _ _
theorem lowerB_len (a : Lab) : (lowerB a).length ≤ a.length := foldB_len _ _ _
theorem raise_f (a : Lab) (ha : a.length ≤ 1000) : label_Raise.f (ofLab a) = some (ofLab (raiseB a)) := by
  unfold label_Raise.f; rw [ofLab_len, toL_ofLab, if_pos (by omega)]
theorem leq_f (a b : Lab) (ha : a.length ≤ 1000) (hb : b.length ≤ 1000) : label_Leq.f (ofLab a) (ofLab b) = some (leqB a b) := by
  unfold label_Leq.f; rw [ofLab_len, ofLab_len, toL_ofLab, toL_ofLab, if_pos (by omega)]
theorem observe_f (t o : Lab) (ht : t.length ≤ 1000) (ho : o.length ≤ 1000) : check_Observe.f (ofLab t) (ofLab o) = some (leqB o (raiseB t)) := by
  have := raiseB_len t
  unfold check_Observe.f
  rw [raise_f t ht, Option.bind_some, leq_f o (raiseB t) ho (by omega)]
  rfl
theorem modify_f (t o : Lab) (ht : t.length ≤ 1000) (ho : o.length ≤ 1000) : check_Modify.f (ofLab t) (ofLab o) = some (leqB t o && leqB o (raiseB t)) := by
  unfold check_Modify.f; rw [ofLab_len, ofLab_len, toL_ofLab, toL_ofLab, if_pos ⟨ht, ho⟩]
theorem hides_f {t v : Lab} (ft : FitL t) (fv : FitL v) (ht : t.length ≤ 1000) (hv : v.length ≤ 1000) : check_Hides.f (ofLab t) (ofLab v) = some (hidesB t v) := by
  unfold check_Hides.f; rw [ofLab_len, ofLab_len, toL_ofLab, toL_ofLab, if_pos ⟨ht, hv, sortB_of ft.sorted, sortB_of fv.sorted⟩]
/-- What a raised level is. -/
def rz (x : Int) : Int := if x = 0 then 5 else x
theorem raise_getz {a : Lab} (fa : FitL a) (c : Int) : getL (raiseB a) c = rz (getL a c) := raise_get fa c
theorem observe_iff {t o : Lab} (ft : FitL t) (fo : FitL o) : leqB o (raiseB t) = true ↔ ∀ c, getL o c ≤ rz (getL t c) := by
  rw [leqB_iff fo (raise_fit ft)]
  exact ⟨fun h c => by have := h c; rwa [raise_getz ft] at this, fun h c => by rw [raise_getz ft]; exact h c⟩
theorem hidesB_mem {t v : Lab} (ft : FitL t) (fv : FitL v) (x : Int) : x ∈ hidesB t v ↔ rz (getL t x) > getL v x := by
  rw [← raise_getz ft]
  unfold hidesB hidX
  rw [List.mem_filterMap]
  constructor
  · rintro ⟨y, hy, h⟩
    split at h
    · rename_i hg
      obtain rfl := Option.some.inj h
      exact hg
    · cases h
  · intro hg
    rcases merge_or (raise_fit ft).sorted fv.sorted x with ⟨y, hy, rfl, _⟩ | ⟨_, h1, h2⟩
    · exact ⟨y, hy, by rw [if_pos hg]⟩
    · rw [h1, h2] at hg; omega
theorem hidesB_nil {t v : Lab} (ft : FitL t) (fv : FitL v) : hidesB t v = [] ↔ leqB (raiseB t) v = true := by
  rw [leqB_iff (raise_fit ft) fv, List.eq_nil_iff_forall_not_mem]
  exact ⟨fun h c => by have := h c; rw [hidesB_mem ft fv, ← raise_getz ft] at this; omega, fun h c hc => by rw [hidesB_mem ft fv, ← raise_getz ft] at hc; have := h c; omega⟩
theorem hidesB_len {t v : Lab} : (hidesB t v).length ≤ t.length + v.length := by
  have h1 := hidX_len (raiseB t) v (mergeB (raiseB t) v)
  have h2 := mergeB_len (raiseB t) v
  have h3 := raiseB_len t
  unfold hidesB
  omega
theorem len0 {α : Type} (l : List α) : ((l.length : Int) == 0) = decide (l = []) := by
  cases l with
  | nil => rfl
  | cons x t => rw [decide_eq_false (by simp)]; rw [beq_eq_false_iff_ne]; simp; try omega
theorem len0' {α : Type} (l : List α) : ((l.length : Int) = 0) ↔ l = [] := by
  cases l with
  | nil => simp
  | cons x t => simp; try omega
theorem lenpos {α : Type} (l : List α) : decide ((l.length : Int) > 0) = !decide (l = []) := by
  cases l with
  | nil => rfl
  | cons x t => rw [decide_eq_false (by simp : ¬ (x :: t = []))]; rw [decide_eq_true (by simp; try omega)]; rfl
def fit3B (ls : List Lab) : Bool := ls.all (fun l => decide (l.length ≤ 30) && fitB l)
theorem rd_L (ls : List Lab) (i : Nat) (h : i < ls.length) : rd_L3 (ls.map ofLab) (i : Int) = ofLab ls[i] := by
  unfold rd_L3
  simp [h]
theorem fit3_loop (ls : List Lab) (hn : ls.length ≤ 100) : ∀ (d k i : Nat), i + d = ls.length → d + 1001 < k → curtilagelaw03_fit.l0 k (ls.map ofLab) (ls.length : Int) (i : Int) = some (fit3B (ls.drop i)) := by
  intro d
  induction d with
  | zero =>
    intro k i hi hk
    obtain ⟨k, rfl⟩ : ∃ m, k = m + 1 := ⟨k - 1, by omega⟩
    simp only [curtilagelaw03_fit.l0]
    rw [if_neg (by omega), List.drop_of_length_le (by omega)]
    rfl
  | succ d ih =>
    intro k i hi hk
    obtain ⟨k, rfl⟩ : ∃ m, k = m + 1 := ⟨k - 1, by omega⟩
    have hil : i < ls.length := by omega
    have ih' := ih k (i + 1) (by omega) (by omega)
    have hw := w64s i (by omega)
    simp only [curtilagelaw03_fit.l0]
    rw [if_pos (by omega), if_pos (by omega), if_pos (by rw [List.length_map]; omega), rd_L _ i hil, hw, ih', ofLab_len, List.drop_eq_getElem_cons hil]
    have e : fit3B (ls[i] :: ls.drop (i + 1)) = ((decide (ls[i].length ≤ 30) && fitB ls[i]) && fit3B (ls.drop (i + 1))) := rfl
    rw [e]
    by_cases h1 : ls[i].length ≤ 30
    · rw [if_neg (by omega), fit_f _ (by omega), decide_eq_true h1, Bool.true_and, Option.bind_some]
      cases fitB ls[i] <;> rfl
    · rw [if_pos (by omega), decide_eq_false h1]; rfl
theorem fit3_f (ls : List Lab) (hn : ls.length ≤ 100) (k : Nat) (hk : 1200 < k) : curtilagelaw03_fit.f k (ls.map ofLab) = some (fit3B ls) := by
  have := fit3_loop ls hn ls.length k 0 (by omega) (by omega)
  unfold curtilagelaw03_fit.f
  rw [List.length_map]
  exact this
theorem fit3_all {ls : List Lab} (h : fit3B ls = true) : ∀ l ∈ ls, l.length ≤ 30 ∧ FitL l := by
  intro l hl
  unfold fit3B at h
  have := List.all_eq_true.1 h l hl
  rw [Bool.and_eq_true, decide_eq_true_eq, fitB_iff] at this
  exact this
theorem awake_f : curtilagelaw03_awake.f = some true := by
  have e1 : ([(⟨7, 0⟩ : S46)] : List S46) = ofLab [(7, 0)] := rfl
  have e2 : ([(⟨7, 4⟩ : S46)] : List S46) = ofLab [(7, 4)] := rfl
  have e3 : ([(⟨7, 1⟩ : S46)] : List S46) = ofLab [(7, 1)] := rfl
  have e4 : ([] : List S46) = ofLab [] := rfl
  have f1 : ∀ v : Int, 0 ≤ v ∧ v ≤ 5 ∧ v ≠ 2 → FitL [(7, v)] := fun v hv => ⟨by unfold SortedP; simp, fun p hp => by simp at hp; subst hp; exact hv⟩
  have r1 : raiseB [(7, 0)] = [(7, 5)] := by unfold raiseB; simp [foldB, foldX, mergeB, raL, ofL]
  have r0 : raiseB [] = [] := by unfold raiseB; simp [foldB, foldX, mergeB]
  have h1 : hidesB [(7, 0)] [] = [7] := by unfold hidesB; rw [r1]; simp [hidX, mergeB, getL]
  have h2 : leqB [(7, 4)] (raiseB []) = false := by rw [r0]; simp [leqB, mergeB, ofL]
  have h3 : leqB [(7, 4)] (raiseB [(7, 0)]) = true := by rw [r1]; simp [leqB, mergeB, ofL]
  have h4 : leqB [] [(7, 1)] = false := by simp [leqB, mergeB, ofL]
  unfold curtilagelaw03_awake.f
  rw [e1, e2, e3, e4]
  simp only [Option.bind_some, hides_f (f1 0 (by decide)) nil_fit (show [((7 : Int), (0 : Int))].length ≤ 1000 by simp) (show ([] : Lab).length ≤ 1000 by simp), observe_f [] [(7, 4)] (by simp) (by simp), observe_f [(7, 0)] [(7, 4)] (by simp) (by simp), modify_f [] [(7, 1)] (by simp) (by simp), h1, h2, h3, h4]
  rfl
end Go.Proofs.Ytkajfadhlgmcjaa.PC
