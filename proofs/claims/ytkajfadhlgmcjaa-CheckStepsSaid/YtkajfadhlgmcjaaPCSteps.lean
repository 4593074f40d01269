import Derived.Test.YtkajfadhlgmcjaaPCLaw
import Derived.Test.YtkajfadhlgmcjaaPCx12
import Derived.Test.YtkajfadhlgmcjaaPCx12
import Derived.Test.YtkajfadhlgmcjaaPCx12
import Derived.Test.YtkajfadhlgmcjaaPCx13
namespace Go.Proofs.Ytkajfadhlgmcjaa.PC
open Go Go.RowKit Go.Proofs.Ytkajfadhlgmcjaa Go.Proofs.YtkajfadhlgmcjaaW.PrintWords Go.Proofs.YtkajfadhlgmcjaaW.PrintLast Go.Proofs.YtkajfadhlgmcjaaW.PrintMore
set_option linter.unusedVariables false
set_option linter.unusedSimpArgs false
def becB (t c n : Lab) : Bool := plainB n && (leqB t n && leqB n c)
def spaB (t c n m : Lab) : Bool := plainB n && (plainB m && (leqB t n && (leqB n m && leqB m c)))
theorem becB_iff {t c n : Lab} : becB t c n = true ↔ plainB n = true ∧ leqB t n = true ∧ leqB n c = true := by unfold becB; simp only [Bool.and_eq_true]
theorem spaB_iff {t c n m : Lab} : spaB t c n m = true ↔ plainB n = true ∧ plainB m = true ∧ leqB t n = true ∧ leqB n m = true ∧ leqB m c = true := by unfold spaB; simp only [Bool.and_eq_true]
theorem become_f (t c n : Lab) (ht : t.length ≤ 1000) (hc : c.length ≤ 1000) (hn : n.length ≤ 1000) : check_Become.f (ofLab t) (ofLab c) (ofLab n) = some (becB t c n) := by
  unfold check_Become.f becB; simp only [ofLab_len, toL_ofLab]; rw [if_pos ⟨ht, hc, hn⟩]
theorem spawn_f (t c n m : Lab) (ht : t.length ≤ 1000) (hc : c.length ≤ 1000) (hn : n.length ≤ 1000) (hm : m.length ≤ 1000) : check_Spawn.f (ofLab t) (ofLab c) (ofLab n) (ofLab m) = some (spaB t c n m) := by
  unfold check_Spawn.f spaB; simp only [ofLab_len, toL_ofLab]; rw [if_pos ⟨ht, hc, hn, hm⟩]
def aboveB (l : Lab) : Bool := l.any (fun p => p.2 == 5)
theorem plain_above (l : Lab) : plainB l = !aboveB l := by
  unfold plainB aboveB
  rw [List.not_any_eq_all_not]
  rfl
theorem above_loop (l : Lab) (hlen : l.length ≤ 1000) : ∀ (d k i : Nat), i + d = l.length → d < k → curtilagelaw03_above.l0 k (ofLab l) (l.length : Int) (i : Int) = some (aboveB (l.drop i)) := by
  intro d
  induction d with
  | zero =>
    intro k i hi hk
    obtain ⟨k, rfl⟩ : ∃ m, k = m + 1 := ⟨k - 1, by omega⟩
    simp only [curtilagelaw03_above.l0, ofLab_len]
    rw [if_neg (by omega), List.drop_of_length_le (by omega)]
    rfl
  | succ d ih =>
    intro k i hi hk
    obtain ⟨k, rfl⟩ : ∃ m, k = m + 1 := ⟨k - 1, by omega⟩
    have hil : i < l.length := by omega
    have ih' := ih k (i + 1) (by omega) (by omega)
    have hw := w64s i (by omega)
    simp only [curtilagelaw03_above.l0, ofLab_len]
    rw [if_pos (by omega), if_pos (by omega), if_pos (by omega), rd_ofLab l i hil, hw, ih', List.drop_eq_getElem_cons hil]
    have e : aboveB (l[i] :: l.drop (i + 1)) = (l[i].2 == 5 || aboveB (l.drop (i + 1))) := rfl
    rw [e]
    by_cases h1 : l[i].2 = 5
    · rw [if_pos h1, beq_iff_eq.2 h1]; rfl
    · rw [if_neg h1, beq_eq_false_iff_ne.2 h1, Bool.false_or]
theorem above_f (l : Lab) (hlen : l.length ≤ 1000) (k : Nat) (hk : 1000 < k) : curtilagelaw03_above.f k (ofLab l) = some (aboveB l) := by
  have := above_loop l hlen l.length k 0 (by omega) (by omega)
  unfold curtilagelaw03_above.f
  rw [ofLab_len]
  exact this
set_option maxRecDepth 100000 in
theorem checkSteps_pure (l0 l1 l2 l3 : List S46) : ∃ k, curtilagelaw03_CheckSteps.f k l0 l1 l2 l3 = some true := by
  obtain ⟨t, rfl⟩ : ∃ a, l0 = ofLab a := ⟨toL l0, (ofLab_toL l0).symm⟩
  obtain ⟨c, rfl⟩ : ∃ a, l1 = ofLab a := ⟨toL l1, (ofLab_toL l1).symm⟩
  obtain ⟨n, rfl⟩ : ∃ a, l2 = ofLab a := ⟨toL l2, (ofLab_toL l2).symm⟩
  obtain ⟨m, rfl⟩ : ∃ a, l3 = ofLab a := ⟨toL l3, (ofLab_toL l3).symm⟩
  refine ⟨10000, ?_⟩
  unfold curtilagelaw03_CheckSteps.f
  have hfit := fit3_f [t, c, n, m] (by simp) 10000 (by omega)
  simp only [List.map_cons, List.map_nil] at hfit
  rw [hfit, Option.bind_some]
  by_cases hf : fit3B [t, c, n, m] = true
  · rw [if_pos hf]
    have hall := fit3_all hf
    obtain ⟨nt, ft⟩ := hall t (by simp)
    have ntr := raiseB_len t
    obtain ⟨nc, fc⟩ := hall c (by simp)
    have ncr := raiseB_len c
    obtain ⟨nn, fn⟩ := hall n (by simp)
    have nnr := raiseB_len n
    obtain ⟨nm, fm⟩ := hall m (by simp)
    have nmr := raiseB_len m
    clear hall hfit hf
    have b1 : check_Become.f (ofLab t) (ofLab c) (ofLab n) = some (becB t c n) := become_f t c n (by omega) (by omega) (by omega)
    have b2 : check_Become.f (ofLab n) (ofLab c) (ofLab m) = some (becB n c m) := become_f n c m (by omega) (by omega) (by omega)
    have b3 : check_Become.f (ofLab t) (ofLab c) (ofLab m) = some (becB t c m) := become_f t c m (by omega) (by omega) (by omega)
    have b4 : check_Become.f (ofLab t) (ofLab c) (ofLab t) = some (becB t c t) := become_f t c t (by omega) (by omega) (by omega)
    have s1 : check_Spawn.f (ofLab t) (ofLab c) (ofLab n) (ofLab m) = some (spaB t c n m) := spawn_f t c n m (by omega) (by omega) (by omega) (by omega)
    have s2 : check_Spawn.f (ofLab t) (ofLab c) (ofLab m) (ofLab m) = some (spaB t c m m) := spawn_f t c m m (by omega) (by omega) (by omega) (by omega)
    have x1 : becB t c n = true → becB n c m = true → becB t c m = true := fun h1 h2 => by
      rw [becB_iff] at h1 h2 ⊢
      exact ⟨h2.1, leq_trans ft fn fm h1.2.1 h2.2.1, h2.2.2⟩
    have x2 : spaB t c n m = true → becB t c n = true ∧ spaB t c m m = true := fun h => by
      rw [spaB_iff] at h
      rw [becB_iff, spaB_iff]
      exact ⟨⟨h.1, h.2.2.1, leq_trans fn fm fc h.2.2.2.1 h.2.2.2.2⟩, h.2.1, h.2.1, leq_trans ft fn fm h.2.2.1 h.2.2.2.1, leq_refl fm, h.2.2.2.2⟩
    have h1 : curtilagelaw03_CheckSteps.j1 9999 (ofLab t) (ofLab c) false = some true := by
      simp only [curtilagelaw03_CheckSteps.j1, above_f t (by omega) 9998 (by omega), b4, rleq_f ft fc (by omega) (by omega) 9998 (by omega), awake_f, Option.bind_some]
      cases e : aboveB t with
      | true => simp
      | false =>
        have hp : plainB t = true := by rw [plain_above, e]; rfl
        have : becB t c t = leqB t c := by
          rw [Bool.eq_iff_iff, becB_iff]
          exact ⟨fun h => h.2.2, fun h => ⟨hp, leq_refl ft, h⟩⟩
        rw [this]; simp
    have h0 : curtilagelaw03_CheckSteps.j0 10000 (ofLab t) (ofLab c) (ofLab n) (ofLab m) false = some true := by
      simp only [curtilagelaw03_CheckSteps.j0, s1, s2, b1, Option.bind_some]
      cases e : spaB t c n m with
      | false => simpa using h1
      | true =>
        obtain ⟨y1, y2⟩ := x2 e
        rw [y1, y2]; simpa using h1
    simp only [b1, b2, b3, Option.bind_some]
    cases e1 : becB t c n with
    | false => simpa using h0
    | true =>
      cases e2 : becB n c m with
      | false => simpa using h0
      | true => rw [x1 e1 e2]; simpa using h0
  · rw [if_neg hf, awake_f]; rfl
end Go.Proofs.Ytkajfadhlgmcjaa.PC
