import Derived.Test.YtkajfadhlgmcjaaPCLaw
import Derived.Test.YtkajfadhlgmcjaaPCMeet
import Derived.Test.YtkajfadhlgmcjaaPCx6
import Derived.Test.YtkajfadhlgmcjaaPCx6
import Derived.Test.YtkajfadhlgmcjaaPCx11
namespace Go.Proofs.Ytkajfadhlgmcjaa.PC
open Go Go.RowKit Go.Proofs.Ytkajfadhlgmcjaa Go.Proofs.YtkajfadhlgmcjaaW.PrintWords Go.Proofs.YtkajfadhlgmcjaaW.PrintLast Go.Proofs.YtkajfadhlgmcjaaW.PrintMore
set_option linter.unusedVariables false
set_option linter.unusedSimpArgs false
def placeB (d o : Lab) : Bool := d.all (fun p => decide (p.2 ≤ max (getL (raiseB o) p.1) 2))
theorem get_f {a : Lab} (fa : FitL a) (ha : a.length ≤ 1000) (c : Int) : label_Get.f (ofLab a) c = some (getL a c) := by
  unfold label_Get.f; rw [ofLab_len, toL_ofLab, if_pos ⟨sortB_of fa.sorted, by omega⟩]
theorem mx_max (a b : Int) : mx a b = max a b := by unfold mx; split <;> omega
theorem place_loop (d o : Lab) (fo : FitL o) (hd : d.length ≤ 1000) (ho : o.length ≤ 1000) : ∀ (n k i : Nat), i + n = d.length → n < k → check_Place.l0 k (ofLab o) (ofLab d) (d.length : Int) (i : Int) = some (placeB (d.drop i) o) := by
  have hr := raiseB_len o
  intro n
  induction n with
  | zero =>
    intro k i hi hk
    obtain ⟨k, rfl⟩ : ∃ m, k = m + 1 := ⟨k - 1, by omega⟩
    simp only [check_Place.l0, ofLab_len]
    rw [if_neg (by omega), List.drop_of_length_le (by omega)]
    rfl
  | succ n ih =>
    intro k i hi hk
    obtain ⟨k, rfl⟩ : ∃ m, k = m + 1 := ⟨k - 1, by omega⟩
    have hil : i < d.length := by omega
    have ih' := ih k (i + 1) (by omega) (by omega)
    have hw := w64s i (by omega)
    simp only [check_Place.l0, ofLab_len]
    rw [if_pos (by omega), if_pos (by omega), if_pos (by omega), raise_f o ho, Option.bind_some, rd_ofLab d i hil]
    simp only []
    rw [get_f (raise_fit fo) (by omega), Option.bind_some, mx_max, hw, ih', List.drop_eq_getElem_cons hil]
    have e : placeB (d[i] :: d.drop (i + 1)) o = (decide (d[i].2 ≤ max (getL (raiseB o) d[i].1) 2) && placeB (d.drop (i + 1)) o) := rfl
    rw [e]
    by_cases h1 : d[i].2 > max (getL (raiseB o) d[i].1) 2
    · rw [if_pos h1, decide_eq_false (by omega)]; rfl
    · rw [if_neg h1, decide_eq_true (by omega), Bool.true_and]
theorem place_f (d o : Lab) (fo : FitL o) (hd : d.length ≤ 1000) (ho : o.length ≤ 1000) (k : Nat) (hk : 1000 < k) : check_Place.f k (ofLab d) (ofLab o) = some (placeB d o) := by
  have := place_loop d o fo hd ho d.length k 0 (by omega) (by omega)
  unfold check_Place.f
  rw [ofLab_len]
  exact this
theorem placeB_iff {d o : Lab} (fd : FitL d) (fo : FitL o) : placeB d o = true ↔ ∀ c, getL d c ≤ max (rz (getL o c)) 2 := by
  unfold placeB
  rw [List.all_eq_true]
  constructor
  · intro h c
    rcases getL_or fd.sorted c with ⟨p, hp, rfl, he⟩ | ⟨_, he⟩
    · have := of_decide_eq_true (h p hp)
      rw [raise_getz fo] at this
      rw [he]; exact this
    · rw [he]; omega
  · intro h p hp
    have := h p.1
    rw [getL_mem fd.sorted hp] at this
    exact decide_eq_true (by rw [raise_getz fo]; exact this)
set_option maxRecDepth 100000 in
theorem checkBoth_pure (l0 l1 l2 : List S46) : ∃ k, curtilagelaw03_CheckBoth.f k l0 l1 l2 = some true := by
  obtain ⟨t, rfl⟩ : ∃ a, l0 = ofLab a := ⟨toL l0, (ofLab_toL l0).symm⟩
  obtain ⟨a, rfl⟩ : ∃ a, l1 = ofLab a := ⟨toL l1, (ofLab_toL l1).symm⟩
  obtain ⟨b, rfl⟩ : ∃ a, l2 = ofLab a := ⟨toL l2, (ofLab_toL l2).symm⟩
  refine ⟨10000, ?_⟩
  unfold curtilagelaw03_CheckBoth.f
  have hfit := fit3_f [t, a, b] (by simp) 10000 (by omega)
  simp only [List.map_cons, List.map_nil] at hfit
  rw [hfit, Option.bind_some]
  by_cases hf : fit3B [t, a, b] = true
  · rw [if_pos hf]
    have hall := fit3_all hf
    obtain ⟨nt, ft⟩ := hall t (by simp)
    have ntr := raiseB_len t
    obtain ⟨na, fa⟩ := hall a (by simp)
    have nar := raiseB_len a
    obtain ⟨nb, fb⟩ := hall b (by simp)
    have nbr := raiseB_len b
    clear hall hfit hf
    have nj := joinB_len a b
    have nm := meetB_len a b
    have fj := join_fit fa fb
    have fme := meet_fit fa fb
    have q1 : leqB (joinB a b) (raiseB t) = (leqB a (raiseB t) && leqB b (raiseB t)) := by
      rw [Bool.eq_iff_iff, Bool.and_eq_true, observe_iff ft fj, observe_iff ft fa, observe_iff ft fb]
      constructor
      · intro h
        exact ⟨fun c => by have := h c; rw [join_get fa fb] at this; omega, fun c => by have := h c; rw [join_get fa fb] at this; omega⟩
      · rintro ⟨h1, h2⟩ c
        have := h1 c; have := h2 c
        rw [join_get fa fb]; omega
    have q2 : leqB a (raiseB t) = true → leqB (meetB a b) (raiseB t) = true := fun h => by
      rw [observe_iff ft fa] at h; rw [observe_iff ft fme]
      intro c; have := h c; rw [meet_get fa fb]; omega
    have q3 : leqB b (raiseB t) = true → leqB (meetB a b) (raiseB t) = true := fun h => by
      rw [observe_iff ft fb] at h; rw [observe_iff ft fme]
      intro c; have := h c; rw [meet_get fa fb]; omega
    have q4 : placeB a t = true → placeB b t = true → placeB (joinB a b) t = true := fun h1 h2 => by
      rw [placeB_iff fa ft] at h1; rw [placeB_iff fb ft] at h2; rw [placeB_iff fj ft]
      intro c; have := h1 c; have := h2 c; rw [join_get fa fb]; omega
    have hj : curtilagelaw03_CheckBoth.j0 10000 (ofLab t) (ofLab a) (ofLab b) false = some true := by
      simp only [curtilagelaw03_CheckBoth.j0, place_f a t ft (by omega) (by omega) 9999 (by omega), place_f b t ft (by omega) (by omega) 9999 (by omega), rjoin_f fa fb (by omega) (by omega) 9999 (by omega), place_f (joinB a b) t ft (by omega) (by omega) 9999 (by omega), awake_f, Option.bind_some]
      cases e1 : placeB a t with
      | false => simp
      | true =>
        cases e2 : placeB b t with
        | false => simp
        | true => rw [q4 e1 e2]; simp
    simp only [observe_f t a (by omega) (by omega), observe_f t b (by omega) (by omega), rjoin_f fa fb (by omega) (by omega) 10000 (by omega), observe_f t (joinB a b) (by omega) (by omega), rmeet_f fa fb (by omega) (by omega) 10000 (by omega), observe_f t (meetB a b) (by omega) (by omega), q1, Option.bind_some]
    cases e1 : leqB a (raiseB t) with
    | true => rw [q2 e1]; simpa using hj
    | false =>
      cases e2 : leqB b (raiseB t) with
      | true => rw [q3 e2]; simpa using hj
      | false => simpa using hj
  · rw [if_neg hf, awake_f]; rfl
end Go.Proofs.Ytkajfadhlgmcjaa.PC
