import Derived.Test.YtkajfadhlgmcjaaPCLaw
import Derived.Test.YtkajfadhlgmcjaaPCx6
import Derived.Test.YtkajfadhlgmcjaaPCx6
import Derived.Test.YtkajfadhlgmcjaaPCx6
import Derived.Test.YtkajfadhlgmcjaaPCx9
namespace Go.Proofs.Ytkajfadhlgmcjaa.PC
open Go Go.RowKit Go.Proofs.Ytkajfadhlgmcjaa Go.Proofs.YtkajfadhlgmcjaaW.PrintWords Go.Proofs.YtkajfadhlgmcjaaW.PrintLast Go.Proofs.YtkajfadhlgmcjaaW.PrintMore
set_option linter.unusedVariables false
set_option linter.unusedSimpArgs false
def placeB (d o : Lab) : Bool := d.all (fun p => decide (p.2 ≤ max (getL (raiseB o) p.1) 2))
theorem get_f {a : Lab} (fa : FitL a) (ha : a.length ≤ 1000) (c : Int) : label_Get.f (ofLab a) c = some (getL a c) := by
  unfold label_Get.f; rw [ofLab_len, toL_ofLab, if_pos ⟨sortB_of fa.sorted, by omega⟩]
theorem mx_max (a b : Int) : mx a b = max a b := by unfold mx; split <;> omega
theorem place_loop (d o : Lab) (fo : FitL o) (hd : d.length ≤ 1000) (ho : o.length ≤ 1000) : ∀ (n k i : Nat), i + n = d.length → n < k → check_Place.l0 k (ofLab o) (ofLab d) (d.length : Int) (i : Int) = some (placeB (d.drop i) o) := by
  have hr := raiseB_len o
  intro n
  induction n with
  | zero =>
    intro k i hi hk
    obtain ⟨k, rfl⟩ : ∃ m, k = m + 1 := ⟨k - 1, by omega⟩
    simp only [check_Place.l0, ofLab_len]
    rw [if_neg (by omega), List.drop_of_length_le (by omega)]
    rfl
  | succ n ih =>
    intro k i hi hk
    obtain ⟨k, rfl⟩ : ∃ m, k = m + 1 := ⟨k - 1, by omega⟩
    have hil : i < d.length := by omega
    have ih' := ih k (i + 1) (by omega) (by omega)
    have hw := w64s i (by omega)
    simp only [check_Place.l0, ofLab_len]
    rw [if_pos (by omega), if_pos (by omega), if_pos (by omega), raise_f o ho, Option.bind_some, rd_ofLab d i hil]
    simp only []
    rw [get_f (raise_fit fo) (by omega), Option.bind_some, mx_max, hw, ih', List.drop_eq_getElem_cons hil]
    have e : placeB (d[i] :: d.drop (i + 1)) o = (decide (d[i].2 ≤ max (getL (raiseB o) d[i].1) 2) && placeB (d.drop (i + 1)) o) := rfl
    rw [e]
    by_cases h1 : d[i].2 > max (getL (raiseB o) d[i].1) 2
    · rw [if_pos h1, decide_eq_false (by omega)]; rfl
    · rw [if_neg h1, decide_eq_true (by omega), Bool.true_and]
theorem place_f (d o : Lab) (fo : FitL o) (hd : d.length ≤ 1000) (ho : o.length ≤ 1000) (k : Nat) (hk : 1000 < k) : check_Place.f k (ofLab d) (ofLab o) = some (placeB d o) := by
  have := place_loop d o fo hd ho d.length k 0 (by omega) (by omega)
  unfold check_Place.f
  rw [ofLab_len]
  exact this
theorem placeB_iff {d o : Lab} (fd : FitL d) (fo : FitL o) : placeB d o = true ↔ ∀ c, getL d c ≤ max (rz (getL o c)) 2 := by
  unfold placeB
  rw [List.all_eq_true]
  constructor
  · intro h c
    rcases getL_or fd.sorted c with ⟨p, hp, rfl, he⟩ | ⟨_, he⟩
    · have := of_decide_eq_true (h p hp)
      rw [raise_getz fo] at this
      rw [he]; exact this
    · rw [he]; omega
  · intro h p hp
    have := h p.1
    rw [getL_mem fd.sorted hp] at this
    exact decide_eq_true (by rw [raise_getz fo]; exact this)
theorem rowned_loop (l : Lab) (hlen : l.length ≤ 1000) : ∀ (d k i : Nat) (out : List Int), i + d = l.length → d < k → out.length ≤ i → curtilageref02_Owned.l0 k (ofLab l) out (i : Int) = some (out ++ ownedB (l.drop i)) := by
  intro d
  induction d with
  | zero =>
    intro k i out hi hk ho
    obtain ⟨k, rfl⟩ : ∃ m, k = m + 1 := ⟨k - 1, by omega⟩
    simp only [curtilageref02_Owned.l0, ofLab_len]
    rw [if_neg (by omega), List.drop_of_length_le (by omega)]
    simp [ownedB]
  | succ d ih =>
    intro k i out hi hk ho
    obtain ⟨k, rfl⟩ : ∃ m, k = m + 1 := ⟨k - 1, by omega⟩
    have hil : i < l.length := by omega
    have hw := w64s i (by omega)
    simp only [curtilageref02_Owned.l0, ofLab_len]
    rw [if_pos (by omega), if_pos (by omega), rd_ofLab l i hil, hw, List.drop_eq_getElem_cons hil]
    by_cases h1 : l[i].2 = 0
    · rw [if_pos h1, if_pos (by omega), ih k (i + 1) _ (by omega) (by omega) (by simp; omega)]
      rw [ownedB_cons, if_pos h1, List.append_assoc]; rfl
    · rw [if_neg h1, ih k (i + 1) _ (by omega) (by omega) (by omega), ownedB_cons, if_neg h1]
theorem rowned_f (l : Lab) (hlen : l.length ≤ 1000) (k : Nat) (hk : 1000 < k) : curtilageref02_Owned.f k (ofLab l) = some (ownedB l) := by
  have := rowned_loop l hlen l.length k 0 [] (by omega) (by omega) (by simp)
  rw [List.drop_zero, List.nil_append] at this
  exact this
theorem ownedB_mem {l : Lab} (h : FitL l) {x : Int} : x ∈ ownedB l ↔ getL l x = 0 := by
  unfold ownedB
  simp only [List.mem_map, List.mem_filter, beq_iff_eq]
  constructor
  · rintro ⟨p, ⟨hp, h0⟩, rfl⟩
    rw [getL_mem h.sorted hp]; exact h0
  · intro h0
    rcases getL_or h.sorted x with ⟨p, hp, rfl, he⟩ | ⟨_, he⟩
    · exact ⟨p, ⟨hp, by rw [← he]; exact h0⟩, rfl⟩
    · rw [he] at h0; exact absurd h0 (by decide)
set_option maxRecDepth 100000 in
theorem checkSame_pure (l0 l1 : List S46) : ∃ k, curtilagelaw03_CheckSame.f k l0 l1 = some true := by
  obtain ⟨t, rfl⟩ : ∃ a, l0 = ofLab a := ⟨toL l0, (ofLab_toL l0).symm⟩
  obtain ⟨o, rfl⟩ : ∃ a, l1 = ofLab a := ⟨toL l1, (ofLab_toL l1).symm⟩
  refine ⟨10000, ?_⟩
  unfold curtilagelaw03_CheckSame.f
  have hfit := fit3_f [t, o] (by simp) 10000 (by omega)
  simp only [List.map_cons, List.map_nil] at hfit
  rw [hfit, Option.bind_some]
  by_cases hf : fit3B [t, o] = true
  · rw [if_pos hf]
    have hall := fit3_all hf
    obtain ⟨nt, ft⟩ := hall t (by simp)
    have ntr := raiseB_len t
    obtain ⟨no, fo⟩ := hall o (by simp)
    have nor := raiseB_len o
    clear hall hfit hf
    have hj1 : curtilagelaw03_CheckSame.j0 10000 (ofLab t) (ofLab o) true = some true := by
      simp only [curtilagelaw03_CheckSame.j0, awake_f, Option.bind_some, if_true]
    rw [rowned_f t (by omega) 10000 (by omega), Option.bind_some, lenpos]
    by_cases hn : ownedB t = []
    · rw [hn]
      have hge : ∀ c, getL t c ≠ 0 := fun c h => by
        have := (ownedB_mem ft).2 h
        rw [hn] at this; simp at this
      have hrz : ∀ c, rz (getL t c) = getL t c := fun c => if_neg (hge c)
      have q1 : (leqB t o && leqB o (raiseB t)) = sameB t o := by
        rw [Bool.eq_iff_iff, Bool.and_eq_true, observe_iff ft fo, leqB_iff ft fo]
        unfold sameB
        rw [decide_eq_true_eq]
        constructor
        · rintro ⟨h1, h2⟩
          exact lab_ext ft fo fun c => by have := h1 c; have := h2 c; rw [hrz] at this; omega
        · rintro rfl
          exact ⟨fun c => Int.le_refl _, fun c => by rw [hrz]; exact Int.le_refl _⟩
      have q2 : leqB o (raiseB t) = leqB o t := by
        rw [Bool.eq_iff_iff, observe_iff ft fo, leqB_iff fo ft]
        exact ⟨fun h c => by have := h c; rwa [hrz] at this, fun h c => by rw [hrz]; exact h c⟩
      have q3 : placeB t o = leqB t (joinB (raiseB o) []) := by
        rw [Bool.eq_iff_iff, placeB_iff ft fo, leqB_iff ft (join_fit (raise_fit fo) nil_fit)]
        exact ⟨fun h c => by rw [join_get (raise_fit fo) nil_fit, raise_getz fo, getL_nil]; exact h c, fun h c => by have := h c; rwa [join_get (raise_fit fo) nil_fit, raise_getz fo, getL_nil] at this⟩
      rw [q2] at q1
      have nj := joinB_len (raiseB o) []
      simp only [List.length_nil] at nj
      have en : ([] : List S46) = ofLab [] := rfl
      simp only [decide_true, Bool.not_true, curtilagelaw03_CheckSame.j0, modify_f t o (by omega) (by omega), same_f t o (by omega) 9999 (by omega), observe_f t o (by omega) (by omega), rleq_f fo ft (by omega) (by omega) 9999 (by omega), place_f t o fo (by omega) (by omega) 9999 (by omega), rraise_f fo (by omega) 9999 (by omega), en,
        rjoin_f (raise_fit fo) nil_fit (by omega) (by simp) 9999 (by omega), rleq_f ft (join_fit (raise_fit fo) nil_fit) (by omega) (by omega) 9999 (by omega), awake_f, Option.bind_some, q1, q2, q3]
      simp
    · rw [decide_eq_false hn]; exact hj1
  · rw [if_neg hf]
    simp only [curtilagelaw03_CheckSame.j0, awake_f, Option.bind_some, if_true]
end Go.Proofs.Ytkajfadhlgmcjaa.PC
