import Derived.Test.YtkajfadhlgmcjaaPCLaw
import Derived.Test.YtkajfadhlgmcjaaPCx14
import Derived.Test.YtkajfadhlgmcjaaPCx14
import Derived.Test.YtkajfadhlgmcjaaPCx15
namespace Go.Proofs.Ytkajfadhlgmcjaa.PC
open Go Go.RowKit Go.Proofs.Ytkajfadhlgmcjaa Go.Proofs.YtkajfadhlgmcjaaW.PrintWords Go.Proofs.YtkajfadhlgmcjaaW.PrintLast Go.Proofs.YtkajfadhlgmcjaaW.PrintMore
set_option linter.unusedVariables false
set_option linter.unusedSimpArgs false
def ownsB (a b : Lab) (l : List Int) : Bool := l.all (fun c => decide (getL a c = 0) || (!decide (b = []) && decide (getL b c = 0)))
theorem rd_int (l : List Int) (i : Nat) (h : i < l.length) : rd l (i : Int) = l[i] := by unfold rd; simp [h]
theorem owns_loop (a b : Lab) (l : List Int) (ha : a.length ≤ 1000) (hb : b.length ≤ 1000) (hl : l.length ≤ 5000) : ∀ (d k i : Nat), i + d = l.length → d + 1001 < k → curtilagelaw03_owns.l0 k (ofLab a) (ofLab b) l (l.length : Int) (i : Int) = some (ownsB a b (l.drop i)) := by
  intro d
  induction d with
  | zero =>
    intro k i hi hk
    obtain ⟨k, rfl⟩ : ∃ m, k = m + 1 := ⟨k - 1, by omega⟩
    simp only [curtilagelaw03_owns.l0]
    rw [if_neg (by omega), List.drop_of_length_le (by omega)]
    rfl
  | succ d ih =>
    intro k i hi hk
    obtain ⟨k, rfl⟩ : ∃ m, k = m + 1 := ⟨k - 1, by omega⟩
    have hil : i < l.length := by omega
    have hx1 : (i : Int) < (l.length : Int) := Int.ofNat_lt.2 hil
    have hx0 : (0 : Int) ≤ (i : Int) := Int.natCast_nonneg i
    have ih' := ih k (i + 1) (by omega) (by omega)
    have hw := w64s i (by omega)
    have e : ownsB a b (l[i] :: l.drop (i + 1)) = ((decide (getL a l[i] = 0) || (!decide (b = []) && decide (getL b l[i] = 0))) && ownsB a b (l.drop (i + 1))) := rfl
    have g1 := rget_f a l[i] ha k (by omega)
    have g2 := rget_f b l[i] hb k (by omega)
    unfold curtilagelaw03_owns.l0
    rw [if_pos hx1, if_pos hx0, if_pos hx1, rd_int l i hil, g1, Option.bind_some, hw, ih', List.drop_eq_getElem_cons hil, e, g2, Option.bind_some, ofLab_len]
    by_cases h1 : getL a l[i] = 0
    · rw [if_pos h1, decide_eq_true h1]; rfl
    · rw [if_neg h1, decide_eq_false h1, Bool.false_or]
      by_cases h2 : b = []
      · rw [if_pos ((len0' b).2 h2), decide_eq_true h2]; rfl
      · rw [if_neg (fun hh => h2 ((len0' b).1 hh)), decide_eq_false h2]
        by_cases h3 : getL b l[i] = 0
        · rw [if_pos h3, decide_eq_true h3]; rfl
        · rw [if_neg h3, decide_eq_false h3]; rfl
theorem owns_f (a b : Lab) (l : List Int) (ha : a.length ≤ 1000) (hb : b.length ≤ 1000) (hl : l.length ≤ 5000) (k : Nat) (hk : 6100 < k) : curtilagelaw03_owns.f k (ofLab a) (ofLab b) l = some (ownsB a b l) := by
  have := owns_loop a b l ha hb hl l.length k 0 (by omega) (by omega)
  unfold curtilagelaw03_owns.f
  exact this
theorem ownsB_iff (a b : Lab) (l : List Int) : ownsB a b l = true ↔ ∀ c ∈ l, getL a c = 0 ∨ getL b c = 0 := by
  unfold ownsB
  rw [List.all_eq_true]
  constructor
  · intro h c hc
    have := h c hc
    rw [Bool.or_eq_true, Bool.and_eq_true, decide_eq_true_eq, decide_eq_true_eq] at this
    exact this.imp id (fun h => h.2)
  · intro h c hc
    rw [Bool.or_eq_true, Bool.and_eq_true, decide_eq_true_eq, decide_eq_true_eq]
    refine (h c hc).imp id (fun h2 => ⟨?_, h2⟩)
    by_cases hb : b = []
    · subst hb; rw [getL_nil] at h2; exact absurd h2 (by decide)
    · rw [decide_eq_false hb]; rfl
def creB (t c o : Lab) : Bool := decide (ownedB o = []) && (plainB o && (leqB t o && leqB o c))
theorem creB_iff {t c o : Lab} : creB t c o = true ↔ ownedB o = [] ∧ plainB o = true ∧ leqB t o = true ∧ leqB o c = true := by unfold creB; simp only [Bool.and_eq_true, decide_eq_true_eq]
theorem create_f (t c o : Lab) (ht : t.length ≤ 1000) (hc : c.length ≤ 1000) (hn : o.length ≤ 1000) : check_Create.f (ofLab t) (ofLab c) (ofLab o) = some (creB t c o) := by
  unfold check_Create.f creB; simp only [ofLab_len, toL_ofLab]; rw [if_pos ⟨ht, hc, hn⟩]
set_option maxRecDepth 100000 in
theorem checkTold_pure (l0 l1 l2 l3 : List S46) : ∃ k, curtilagelaw03_CheckTold.f k l0 l1 l2 l3 = some true := by
  obtain ⟨t, rfl⟩ : ∃ a, l0 = ofLab a := ⟨toL l0, (ofLab_toL l0).symm⟩
  obtain ⟨c, rfl⟩ : ∃ a, l1 = ofLab a := ⟨toL l1, (ofLab_toL l1).symm⟩
  obtain ⟨o, rfl⟩ : ∃ a, l2 = ofLab a := ⟨toL l2, (ofLab_toL l2).symm⟩
  obtain ⟨v, rfl⟩ : ∃ a, l3 = ofLab a := ⟨toL l3, (ofLab_toL l3).symm⟩
  refine ⟨10000, ?_⟩
  unfold curtilagelaw03_CheckTold.f
  have hfit := fit3_f [t, c, o, v] (by simp) 10000 (by omega)
  simp only [List.map_cons, List.map_nil] at hfit
  rw [hfit, Option.bind_some]
  by_cases hf : fit3B [t, c, o, v] = true
  · rw [if_pos hf]
    have hall := fit3_all hf
    obtain ⟨nt, ft⟩ := hall t (by simp)
    have ntr := raiseB_len t
    obtain ⟨nc, fc⟩ := hall c (by simp)
    have ncr := raiseB_len c
    obtain ⟨no, fo⟩ := hall o (by simp)
    have nor := raiseB_len o
    obtain ⟨nv, fv⟩ := hall v (by simp)
    have nvr := raiseB_len v
    clear hall hfit hf
    have nh := @hidesB_len t v
    have en : ([] : List S46) = ofLab [] := rfl
    have own : leqB t o = true → leqB o v = true → ownsB t [] (hidesB t v) = true := fun h1 h2 => by
      rw [ownsB_iff]
      intro x hx
      rw [hidesB_mem ft fv] at hx
      have a1 := (leqB_iff ft fo).1 h1 x
      have a2 := (leqB_iff fo fv).1 h2 x
      left
      by_cases h0 : getL t x = 0
      · exact h0
      · unfold rz at hx; rw [if_neg h0] at hx; omega
    have c1 := create_f t c o (by omega) (by omega) (by omega)
    have h1 : curtilagelaw03_CheckTold.j1 9999 (ofLab t) (ofLab c) (ofLab o) (ofLab v) false = some true := by
      simp only [curtilagelaw03_CheckTold.j1, c1, rleq_f fo fv (by omega) (by omega) 9998 (by omega), hides_f ft fv (by omega) (by omega), en, owns_f t [] (hidesB t v) (by omega) (by simp) (by omega) 9998 (by omega), awake_f, Option.bind_some]
      cases e1 : creB t c o with
      | false => simp
      | true =>
        rw [creB_iff] at e1
        cases e2 : leqB o v with
        | false => simp
        | true => rw [own e1.2.2.1 e2]; simp
    have h0 : curtilagelaw03_CheckTold.j0 10000 (ofLab t) (ofLab c) (ofLab o) (ofLab v) false = some true := by
      simp only [curtilagelaw03_CheckTold.j0, c1, rleq_f ft fo (by omega) (by omega) 9999 (by omega), rleq_f fo fc (by omega) (by omega) 9999 (by omega), Option.bind_some]
      cases e1 : creB t c o with
      | false => simpa using h1
      | true =>
        rw [creB_iff] at e1
        rw [e1.2.2.1, e1.2.2.2]; simpa using h1
    simp only [modify_f t o (by omega) (by omega), rleq_f fo fv (by omega) (by omega) 10000 (by omega), hides_f ft fv (by omega) (by omega), en, owns_f t [] (hidesB t v) (by omega) (by simp) (by omega) 10000 (by omega), Option.bind_some]
    cases e1 : leqB t o with
    | false => simpa using h0
    | true =>
      cases e3 : leqB o (raiseB t) with
      | false => simpa using h0
      | true =>
        cases e2 : leqB o v with
        | false => simpa using h0
        | true => rw [own e1 e2]; simpa using h0
  · rw [if_neg hf, awake_f]; rfl
end Go.Proofs.Ytkajfadhlgmcjaa.PC
