import Derived.Test.YtkajfadhlgmcjaaLabOps
namespace Go.Proofs.Ytkajfadhlgmcjaa
open Go Go.RowKit Go.Shelf Go.Proofs.YtkajfadhlgmcjaaW.PrintWords Go.Proofs.YtkajfadhlgmcjaaW.PrintLast Go.Proofs.YtkajfadhlgmcjaaW.PrintMore
set_option linter.unusedVariables false
set_option linter.unusedSimpArgs false
/-- Which of two is the lesser. -/
def cmpI (x y : Int) : Int := if x < y then -1 else if y < x then 1 else 0
theorem cmp_calls (x y : Int) (w : World) : Calls Try.prog 90 #[.int .u64 x, .int .u64 y] w fun e w' => e = .returned (.int .i64 (cmpI x y)) ∧ Below w.heap.size w w' := by
  by_cases h1 : x < y
  · have d1 : decide (x < y) = true := decide_eq_true h1
    have d2 : decide (y < x) = false := decide_eq_false (by omega)
    have HR : Hid (cmpI x y = -1) := Lib.hid (if_pos h1)
    go_enter Try.func90, Try.ntmps90
    go_wp2
    go_ret
    exact ⟨by rw [HR.out]; rfl, (by repeat (first | with_reducible (exact Below.refl _ _) | with_reducible (apply below_alloc) | with_reducible (apply below_drew1) | with_reducible (apply pw_below_drewN) | (with_reducible (refine bel_set ?_ ?_ _ _); rotate_left; omega)))⟩
  · have d1 : decide (x < y) = false := decide_eq_false h1
    by_cases h2 : y < x
    · have d2 : decide (y < x) = true := decide_eq_true h2
      have HR : Hid (cmpI x y = 1) := Lib.hid (by unfold cmpI; rw [if_neg h1, if_pos h2])
      go_enter Try.func90, Try.ntmps90
      go_wp2
      go_ret
      exact ⟨by rw [HR.out]; rfl, (by repeat (first | with_reducible (exact Below.refl _ _) | with_reducible (apply below_alloc) | with_reducible (apply below_drew1) | with_reducible (apply pw_below_drewN) | (with_reducible (refine bel_set ?_ ?_ _ _); rotate_left; omega)))⟩
    · have d2 : decide (y < x) = false := decide_eq_false h2
      have HR : Hid (cmpI x y = 0) := Lib.hid (by unfold cmpI; rw [if_neg h1, if_neg h2])
      go_enter Try.func90, Try.ntmps90
      go_wp2
      go_ret
      exact ⟨by rw [HR.out]; rfl, (by repeat (first | with_reducible (exact Below.refl _ _) | with_reducible (apply below_alloc) | with_reducible (apply below_drew1) | with_reducible (apply pw_below_drewN) | (with_reducible (refine bel_set ?_ ?_ _ _); rotate_left; omega)))⟩
theorem at1_calls (p q c : Int) (w : World) : Calls Try.prog 89 #[.agg #[.int .u64 p, .int .i64 q], .int .u64 c] w fun e w' => e = .returned (.int .i64 (cmpI p c)) ∧ Below w.heap.size w w' := by
  go_enter Try.func89, Try.ntmps89
  go_wp2_with (go_at_call 90; refine (cmp_calls _ _ _).mono ?_; rintro e w1 ⟨rfl, hb⟩)
  go_ret
  exact ⟨rfl, ((Below.refl _ _).alloc (Nat.le_refl _) _).trans (hb.mono (by simp))⟩
/-- Where a category is found, or belongs. -/
structure Spot (l : Lab) (c : Int) (k : Nat) : Prop where
  le : k ≤ l.length
  lo : ∀ i (h : i < l.length), i < k → l[i].1 < c
  hi : ∀ i (h : i < l.length), k ≤ i → c ≤ l[i].1
def Sorted (l : Lab) : Prop := ∀ i j (hi : i < l.length) (hj : j < l.length), i < j → l[i].1 < l[j].1
/-- Whether it is there. -/
def hitB (l : Lab) (c : Int) (k : Nat) : Bool := decide (∃ h : k < l.length, l[k].1 = c)
set_option maxRecDepth 100000 in
set_option maxHeartbeats 1000000 in
theorem search_calls (l : Lab) (A : Option Addr) (cap : Nat) (c : Int) (w : World) (hC : kPr.C w A l.length l) (hcap : l.length ≤ cap) (hs : Sorted l) (hlen : l.length ≤ 1000000) :
    Calls Try.prog 88 #[.slice A l.length cap, .int .u64 c, .func (.func 89) #[] #[]] w fun e w' => ∃ k, Spot l c k ∧ e = .returned (.tuple #[.int .i64 k, .bool (hitB l c k)]) ∧ Below w.heap.size w w' := by
  obtain ⟨n, hn⟩ : ∃ n, n = l.length := ⟨_, rfl⟩
  have HC := Lib.hid hC
  have HS := Lib.hid hs
  have HN := Lib.hid hn
  rw [← hn] at hcap hlen ⊢
  clear hC hs hn
  go_enter Try.func88, Try.ntmps88
  go_wp2
  go_loopg [9, 10] n (fun g u v W => ∃ i j : Nat, u = .int .i64 i ∧ v = .int .i64 j ∧ i ≤ j ∧ j ≤ n ∧ g = j - i ∧ Hid (∀ x (h : x < l.length), x < i → l[x].1 < c) ∧ Hid (∀ x (h : x < l.length), j ≤ x → c ≤ l[x].1) ∧ Below w.heap.size w W)
  case atStart => exact ⟨0, n, rfl, rfl, by omega, by omega, by omega, Lib.hid (fun _ _ h => absurd h (by omega)), Lib.hid (fun x h h' => absurd h (by have := HN.out; omega)), (by repeat (first | with_reducible (exact Below.refl _ _) | with_reducible (apply below_alloc) | with_reducible (apply below_drew1) | with_reducible (apply pw_below_drewN) | (with_reducible (refine bel_set ?_ ?_ _ _); rotate_left; omega)))⟩
  case round =>
    obtain ⟨i, j, rfl, rfl, hij, hj, rfl, HL, HH, hB⟩ := hrel
    by_cases hlt : i < j
    · have hmi : i ≤ (i + j) / 2 := by omega
      have hmj : (i + j) / 2 < j := by omega
      have hml : (i + j) / 2 < l.length := by have := HN.out; omega
      obtain ⟨ad, rfl, a0, a1⟩ := lab_at HC.out ((i + j) / 2) hml
      have b0 := pw_cell_below hB a0
      have b1 := pw_cell_below hB a1
      have d1 : decide ((i : Int) < j) = true := decide_eq_true (by omega)
      obtain ⟨p, hp⟩ : ∃ p, p = l[(i + j) / 2] := ⟨_, rfl⟩
      rw [← hp] at b0 b1
      have HP := Lib.hid hp
      clear hp a0 a1
      by_cases hlt2 : p.1 < c
      · have e1 : Hid (cmpI p.1 c = -1) := Lib.hid (if_pos hlt2)
        go_wp2_with (go_at_call 89; refine (at1_calls _ _ _ _).mono ?_; rw [e1.out]; rintro e w1 ⟨rfl, hb⟩)
        go_roundg (j - ((i + j) / 2 + 1))
        case rel =>
          refine ⟨(i + j) / 2 + 1, j, ?_, rfl, by omega, hj, rfl, Lib.hid ?_, HH, hB.trans (hb.mono hB.size)⟩
          · simp; done
          · intro x hx hxi
            by_cases hxe : x = (i + j) / 2
            · subst hxe; rw [← HP.out]; exact hlt2
            · exact Int.lt_of_lt_of_le (HS.out x ((i + j) / 2) hx hml (by omega)) (by rw [← HP.out]; omega)
        case measure => omega
      · have e1 : Hid (cmpI p.1 c = 0 ∨ cmpI p.1 c = 1) := Lib.hid (by unfold cmpI; rw [if_neg hlt2]; split <;> simp)
        have hge : Hid (∀ (x : Nat) (h : x < l.length), (i + j) / 2 ≤ x → c ≤ l[x].1) := Lib.hid (by
          intro x hx hxi
          by_cases hxe : x = (i + j) / 2
          · subst hxe; rw [← HP.out]; omega
          · have := HS.out ((i + j) / 2) x hml hx (by omega)
            rw [← HP.out] at this; omega)
        rcases e1.out with e2 | e2
        all_goals
          have e3 := Lib.hid e2
          clear e2
          go_wp2_with (go_at_call 89; refine (at1_calls _ _ _ _).mono ?_; rw [e3.out]; rintro e w1 ⟨rfl, hb⟩)
          go_roundg ((i + j) / 2 - i)
          case rel => exact ⟨i, (i + j) / 2, rfl, by simp, by omega, by omega, rfl, HL, hge, hB.trans (hb.mono hB.size)⟩
          case measure => omega
    · obtain rfl : i = j := by omega
      have d1 : decide ((i : Int) < i) = false := decide_eq_false (by omega)
      have hsp : Spot l c i := ⟨by have := HN.out; omega, HL.out, HH.out⟩
      by_cases hin : i < n
      · have d2 : decide ((i : Int) < n) = true := decide_eq_true (by omega)
        have hil : i < l.length := by have := HN.out; omega
        obtain ⟨ad, rfl, a0, a1⟩ := lab_at HC.out i hil
        have b0 := pw_cell_below hB a0
        have b1 := pw_cell_below hB a1
        obtain ⟨p, hp⟩ : ∃ p, p = l[i] := ⟨_, rfl⟩
        rw [← hp] at b0 b1
        have HP := Lib.hid hp
        clear hp a0 a1
        by_cases he : p.1 = c
        · have e1 : Hid (cmpI p.1 c = 0) := Lib.hid (by unfold cmpI; rw [if_neg (by omega), if_neg (by omega)])
          have hh : Hid (hitB l c i = true) := Lib.hid (decide_eq_true ⟨hil, by rw [← HP.out]; exact he⟩)
          clear he
          go_wp2_with (go_at_call 89; refine (at1_calls _ _ _ _).mono ?_; rw [e1.out]; rintro e w1 ⟨rfl, hb⟩)
          refine bodyPost_ret (results_tmp2 rfl _ _ _) rfl ?_
          exact ⟨i, hsp, by rw [hh.out]; rfl, hB.trans (hb.mono hB.size)⟩
        · have e1 : Hid (cmpI p.1 c = 1) := Lib.hid (by
            have := hsp.hi i hil (Nat.le_refl _)
            rw [← HP.out] at this
            unfold cmpI; rw [if_neg (by omega), if_pos (by omega)])
          have hh : Hid (hitB l c i = false) := Lib.hid (decide_eq_false (by rintro ⟨_, h⟩; rw [← HP.out] at h; exact he h))
          clear he
          go_wp2_with (go_at_call 89; refine (at1_calls _ _ _ _).mono ?_; rw [e1.out]; rintro e w1 ⟨rfl, hb⟩)
          refine bodyPost_ret (results_tmp2 rfl _ _ _) rfl ?_
          exact ⟨i, hsp, by rw [hh.out]; rfl, hB.trans (hb.mono hB.size)⟩
      · have d2 : decide ((i : Int) < n) = false := decide_eq_false (by omega)
        have hh : Hid (hitB l c i = false) := Lib.hid (decide_eq_false (by rintro ⟨h, _⟩; have := HN.out; omega))
        go_wp2
        refine bodyPost_ret (results_tmp2 rfl _ _ _) rfl ?_
        exact ⟨i, hsp, by rw [hh.out]; rfl, (by repeat (first | with_reducible (exact hB) | with_reducible (apply below_alloc) | with_reducible (apply below_drew1) | with_reducible (apply pw_below_drewN) | (with_reducible (refine bel_set ?_ ?_ _ _); rotate_left; omega)))⟩
theorem label_at_calls (l : Lab) (A : Option Addr) (cap : Nat) (c : Int) (w : World) (hC : kPr.C w A l.length l) (hcap : l.length ≤ cap) (hs : Sorted l) (hlen : l.length ≤ 1000000) :
    Calls Try.prog 62 #[.slice A l.length cap, .int .u64 c] w fun e w' => ∃ k, Spot l c k ∧ e = .returned (.tuple #[.int .i64 k, .bool (hitB l c k)]) ∧ Below w.heap.size w w' := by
  go_enter Try.func62, Try.ntmps62
  go_wp2_with (go_at_call 88; refine (search_calls l A cap c _ hC hcap hs hlen).mono ?_; rintro e w1 ⟨k, hsp, rfl, hb⟩)
  refine bodyPost_ret (results_tmp2 rfl _ _ _) rfl ?_
  exact ⟨k, hsp, rfl, hb⟩
/-- A category's level. -/
def getL (l : Lab) (c : Int) : Int := match l.find? (fun p => p.1 == c) with
  | some p => p.2
  | none => 2
theorem Sorted.uniq {l : Lab} (h : Sorted l) {i j : Nat} (hi : i < l.length) (hj : j < l.length) (he : l[i].1 = l[j].1) : i = j := by
  rcases Nat.lt_trichotomy i j with hlt | rfl | hlt
  · have := h i j hi hj hlt; omega
  · rfl
  · have := h j i hj hi hlt; omega
theorem getL_at {l : Lab} (h : Sorted l) {i : Nat} (hi : i < l.length) : getL l l[i].1 = l[i].2 := by
  unfold getL
  cases hf : l.find? (fun p => p.1 == l[i].1) with
  | none => rw [List.find?_eq_none] at hf; exact absurd (by simp) (hf l[i] (List.getElem_mem _))
  | some p =>
    have h1 := List.find?_some hf
    obtain ⟨j, hj, rfl⟩ := List.getElem_of_mem (List.mem_of_find?_eq_some hf)
    have : j = i := h.uniq hj hi (by simpa using h1)
    subst this; rfl
theorem getL_none {l : Lab} {c : Int} (h : ∀ i (hi : i < l.length), l[i].1 ≠ c) : getL l c = 2 := by
  unfold getL
  have : l.find? (fun p => p.1 == c) = none := by
    rw [List.find?_eq_none]
    intro p hp
    obtain ⟨j, hj, rfl⟩ := List.getElem_of_mem hp
    simpa using h j hj
  rw [this]
theorem get_hit {l : Lab} {c : Int} {k : Nat} (hs : Sorted l) (hh : hitB l c k = true) : ∃ h : k < l.length, l[k].1 = c ∧ getL l c = l[k].2 := by
  obtain ⟨h, he⟩ := of_decide_eq_true hh
  exact ⟨h, he, by rw [← he]; exact getL_at hs h⟩
theorem get_miss {l : Lab} {c : Int} {k : Nat} (hs : Sorted l) (hp : Spot l c k) (hh : hitB l c k = false) : getL l c = 2 := by
  refine getL_none fun i hi he => ?_
  have hn := of_decide_eq_false hh
  by_cases h1 : i < k
  · have := hp.lo i hi h1; omega
  · by_cases h2 : i = k
    · subst h2; exact hn ⟨hi, he⟩
    · have h3 := hp.hi k (by omega) (Nat.le_refl _)
      have h4 := hs k i (by omega) hi (by omega)
      omega
theorem label_at2 (l : Lab) (A : Option Addr) (cap : Nat) (c : Int) (w : World) (hC : kPr.C w A l.length l) (hcap : l.length ≤ cap) (hs : Sorted l) (hlen : l.length ≤ 1000000) :
    Calls Try.prog 62 #[.slice A l.length cap, .int .u64 c] w fun e w' => (∃ (k : Nat) (ad : Addr), A = some ad ∧ ((k : Int) < (l.length : Int)) ∧ w'.cell? ⟨(ad.add (k * 2)).block, (ad.add (k * 2)).off + 1, none⟩ = some (.int .i64 (getL l c)) ∧ e = .returned (.tuple #[.int .i64 k, .bool true]) ∧ Below w.heap.size w w') ∨
      (∃ k : Nat, Hid (getL l c = 2) ∧ e = .returned (.tuple #[.int .i64 k, .bool false]) ∧ Below w.heap.size w w') := by
  refine (label_at_calls l A cap c w hC hcap hs hlen).mono ?_
  rintro e w1 ⟨k, hsp, rfl, hb⟩
  cases hh : hitB l c k with
  | true =>
    obtain ⟨hk, he, hg⟩ := get_hit hs hh
    obtain ⟨ad, rfl, a0, a1⟩ := lab_at hC k hk
    exact .inl ⟨k, ad, rfl, by omega, by rw [hg]; exact pw_cell_below hb a1, rfl, hb⟩
  | false => exact .inr ⟨k, Lib.hid (get_miss hs hsp hh), rfl, hb⟩
theorem get_calls (l : Lab) (A : Option Addr) (cap : Nat) (c : Int) (w : World) (hC : kPr.C w A l.length l) (hcap : l.length ≤ cap) (hs : Sorted l) (hlen : l.length ≤ 1000000) :
    Calls Try.prog 22 #[.slice A l.length cap, .int .u64 c] w fun e w' => e = .returned (.int .i64 (getL l c)) ∧ Below w.heap.size w w' := by
  have HC := Lib.hid hC
  have HS := Lib.hid hs
  have HL := Lib.hid hlen
  have HP := Lib.hid hcap
  obtain ⟨n, hn⟩ : ∃ n, n = l.length := ⟨_, rfl⟩
  have HN := Lib.hid hn
  rw [← hn]
  clear hC hs hlen hcap hn
  go_enter Try.func22, Try.ntmps22
  go_wp2_with (go_at_call 62; rw [HN.out]; refine (label_at2 l A cap c _ HC.out HP.out HS.out HL.out).mono ?_; rintro e w1 (⟨k, ad, rfl, hk, hc, rfl, hb⟩ | ⟨k, hg, rfl, hb⟩))
  · go_ret
    exact ⟨rfl, hb⟩
  · go_ret
    exact ⟨by rw [hg.out]; rfl, hb⟩
end Go.Proofs.Ytkajfadhlgmcjaa
