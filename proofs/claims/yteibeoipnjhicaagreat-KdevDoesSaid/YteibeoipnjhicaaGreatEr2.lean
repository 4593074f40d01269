import Derived.Test.YteibeoipnjhicaaGreatEr1
namespace Go.Proofs.YteibeoipnjhicaaGreat
open Go Go.RowKit
set_option linter.unusedVariables false
set_option linter.unusedSimpArgs false
set_option maxHeartbeats 16000000
set_option maxRecDepth 100000
attribute [go_sem] q2s
@[go_sem] theorem qne_2 (m : Nat) : (m + 1 = m) = False := eq_false (by omega)
@[go_sem] theorem qne_3 (m : Nat) : (m = m + 1 + 1) = False := eq_false (by omega)
@[go_sem] theorem qne_4 (m : Nat) : (m + 1 + 1 = m) = False := eq_false (by omega)
@[go_sem] theorem qne_5 (m : Nat) : (m = m + 1 + 1 + 1) = False := eq_false (by omega)
@[go_sem] theorem qne_6 (m : Nat) : (m + 1 + 1 + 1 = m) = False := eq_false (by omega)
def q6a (t : Ob) (w : Wd) : List PV := Ob.enc t ++ Wd.enc w
@[go_sem] theorem fd_cells (t : Ob) (w : Wd) : PV.cells? (.agg (q6a t w)) = some (q6a t w) := rfl
@[go_sem] theorem fd_build (t : Ob) (w : Wd) : q4l Tryz.prog 245 [(0, .agg (Ob.enc t)), (1, .agg (Wd.enc w))] = some (.agg (q6a t w)) := by kernel_rfl
@[go_sem] theorem fd_f0 : q2v Tryz.prog 245 0 = some (58, 0) := by kernel_rfl
@[go_sem] theorem fd_f1 : q2v Tryz.prog 245 1 = some (25, 51) := by kernel_rfl
@[go_sem] theorem fd_w (t : Ob) (w : Wd) : cut Tryz.prog 25 (q6a t w) 51 = some (.agg (Wd.enc w)) := by kernel_rfl
@[go_sem] theorem fd_l (t : Ob) (w : Wd) : cut Tryz.prog 43 (q6a t w) 2 = some (.sl (t.label.map Pr.enc)) := by kernel_rfl
def thr (e : Int) : PV := .ifc 242 (.agg [.int .i64 e])
@[go_sem] theorem thr_build (e : Int) : q4l Tryz.prog 242 [(0, .int .i64 e)] = some (.agg [.int .i64 e]) := by kernel_rfl
theorem up_fit {l : List Pr} (h : q4i l = true) : q4i (l.map upPr) = true := by
  unfold q4i
  rw [List.length_map]
  refine q3v fun k hk => ?_
  have hq := allB_iff.1 h k hk
  unfold q6m at hq ⊢
  rw [List.getElem?_map]
  cases hx : l[k]? with
  | none => rfl
  | some x =>
    rw [hx] at hq
    simp only [Bool.and_eq_true, Option.map_some] at hq ⊢
    obtain ⟨⟨h1, h2⟩, h3⟩ := hq
    have hlev : q7a (levUp x.lev) = true ∧ (!(levUp x.lev == 2)) = true := by
      have e : q8a x.lev = x.lev := by unfold q8a; rw [if_pos h1]
      unfold levUp
      rw [e]
      split
      · exact ⟨rfl, rfl⟩
      · exact ⟨h1, h2⟩
    refine ⟨hlev, ?_⟩
    cases k with
    | zero => rfl
    | succ j =>
      simp only at h3 ⊢
      rw [List.getElem?_map]
      cases hy : l[j]? with
      | none => rfl
      | some y => rw [hy] at h3; exact h3
theorem sound_fit {o : Ob} (h : sound o = true) : q4i o.label = true := kept_fit (sound_kept h)
theorem shown_fit {o : Ob} (h : sound o = true) : q4i (q5e o) = true := by
  unfold q5e
  split
  · exact up_fit (sound_fit h)
  · exact sound_fit h
theorem zero_shown : shownOf Ob.zero = q5e Ob.zero := rfl
/-- What is known of an object that is found: it is sound, or none. -/
def Okay (o : Ob) : Prop := o.label.length ≤ 20 ∧ (sound o = true ∨ o = Ob.zero)
theorem okay_shown {o : Ob} (h : Okay o) : shownOf o = q5e o := by rcases h.2 with h | rfl; exact shown_eq h; rfl
theorem okay_fit {o : Ob} (h : Okay o) : q4i (q5e o) = true ∧ q4i o.label = true := by
  rcases h.2 with h | rfl
  · exact ⟨shown_fit h, sound_fit h⟩
  · exact ⟨rfl, rfl⟩
theorem q7y {w : Wd} (hf : FewW w) (h : q5h w = true) (id : Int) : Okay (q2p w id).1 := by
  refine ⟨q7f hf id, ?_⟩
  unfold q2p
  split
  · rename_i x hx; exact .inl ((q5d h).2.1 x (List.mem_of_find?_eq_some hx))
  · exact .inr rfl
def RisZ (l : List Int) : Prop := ∀ (i j : Nat) (x y : Int), l[i]? = some x → l[j]? = some y → i < j → x < y
theorem risZ_of {l : List Int} (h : allB l.length (risAt l) = true) : RisZ l := by
  have step : ∀ i (x y : Int), l[i]? = some x → l[i + 1]? = some y → x < y := fun i x y hx hy => by
    have := allB_iff.1 h (i + 1) (q5f hy)
    unfold risAt at this
    rw [hy] at this
    simp only [Bool.and_eq_true] at this
    have h2 := this.2
    rw [hx] at h2
    simp only [Bool.not_eq_true', decide_eq_false_iff_not] at h2
    omega
  intro i j
  induction j with
  | zero => intro x y _ _ hij; omega
  | succ j ih =>
    intro x y hx hy hij
    obtain ⟨z, hz⟩ := q3j (by have := q5f hy; omega : j < l.length)
    rcases Nat.lt_or_ge i j with h1 | h1
    · have := ih x z hx hz h1; have := step j z y hz hy; omega
    · obtain rfl : i = j := by omega
      rw [hx] at hz; cases hz; exact step i x y hx hy
theorem okay_links {o : Ob} (h : Okay o) (hk : (o.kind == 2) = true) : RisZ o.links := by
  rcases h.2 with h | rfl
  · unfold sound at h
    simp only [Bool.and_eq_true] at h
    have hi := h.2.2
    have hk' : o.kind = 2 := by simpa using hk
    unfold inner at hi
    rw [if_neg (by rw [hk']; decide), if_pos hk] at hi
    simp only [Bool.and_eq_true] at hi
    exact risZ_of hi.2
  · exact fun i j x y hx => by simp [Ob.zero] at hx
def posZ (l : List Int) (n : Int) : Nat := (l.takeWhile (fun x => decide (x < n))).length
theorem posZ_spot {l : List Int} {n : Int} {k : Nat} (hk : k ≤ l.length) (h1 : ∀ i, i < k → ∀ x, l[i]? = some x → x < n) (h2 : ∀ x, l[k]? = some x → ¬ x < n) : posZ l n = k := by
  unfold posZ
  induction l generalizing k with
  | nil => simp at hk; subst hk; rfl
  | cons a l ih =>
    cases k with
    | zero =>
      have := h2 a rfl
      rw [List.takeWhile_cons, if_neg (by simpa using this)]; rfl
    | succ k =>
      have := h1 0 (by omega) a rfl
      rw [List.takeWhile_cons, if_pos (by simpa using this), List.length_cons, ih (by simpa using hk) (fun k hk x hx => h1 (k + 1) (by omega) x (by simpa using hx)) (fun x hx => h2 x (by simpa using hx))]
attribute [local irreducible] q1a dr q0i Ex.then Ex.inBlock retQ q1r q3f q3e Pure CSat evOp q2r rdOf upd hset strip sp0 cut envL q3h q4c Keep BdL evBs q3n q3z
theorem cmp_less (x y : Int) : Pure Tryz.prog 289 [.int .u64 x, .int .u64 y] (.bool (decide (x < y))) := by
  refine q2y (by kernel_rfl) (by simp only [go_sem, *]) (by simp only [go_sem, *]) Tryz.func289 Tryz.results289 rfl (by simp [Tryz.ntmps289]) (by kernel_rfl) ?_
  repeat' (first | (show q1a ..; first | refine q0d ?_ | refine q0p rfl ?_ | refine q1c rfl rfl ?_) | (show q1f ..; first | refine q0n rfl rfl ?_ | refine q0h rfl ?_) | (show goOn ..; first | refine q0s ?_ | refine q0u ?_ | refine q0y ?_) | (show q1k ..; refine q0j ?_) | (show q1u ..; (refine q0z (r := ?_) ?_ ?_; rotate_left 1; (focus exact cmp_nan _))) | (show wGo ..; first | refine q1v ?_ | refine q2b ?_ | refine q1x ?_ | refine q1z ?_ | refine gw_u ?_ | refine q1w (fun _ => ?_) (fun _ => ?_) | refine q2a (fun _ => ?_) (fun _ => ?_) | refine q1y (fun _ => ?_) (fun _ => ?_) | refine q2c (fun _ => ?_) (fun _ => ?_)) | (show q0i ..; first | refine q0q ?_ | refine q0c ?_ | refine q0r ?_ | refine q0f ?_) | refine q0a ?_ | refine q0m ?_ | refine q0l ?_ | (show retQ ..; first | refine q0o ?_ | refine q0b ?_) | refine q0e ?_)
  all_goals (refine q2w ?_; simp [*])
theorem sl_nan (x : Int) : Pure Tryz.prog 290 [.int .u64 x] (.bool false) := by
  refine q2y (by kernel_rfl) (by simp only [go_sem, *]) (by simp only [go_sem, *]) Tryz.func290 Tryz.results290 rfl (by simp [Tryz.ntmps290]) (by kernel_rfl) ?_
  repeat' (first | (show q1a ..; first | refine q0d ?_ | refine q0p rfl ?_) | (show q1f ..; refine q0n rfl rfl ?_) | (show goOn ..; refine q0s ?_) | (show q0i ..; first | refine q0q ?_ | refine q0c ?_ | refine q0r ?_ | refine q0f ?_) | refine q0a ?_ | refine q0m ?_ | refine q0l ?_ | (show retQ ..; first | refine q0o ?_ | refine q0b ?_) | refine q0e ?_)
  all_goals (refine q2w ?_; simp [*])
theorem bin_search (l : List Int) (n : Int) (hl : l.length ≤ 1000000) (hs : RisZ l) : Pure Tryz.prog 259 [.sl (l.map u64), .int .u64 n] (.tup [.int .i64 (posZ l n), .bool (l.any (· == n))]) := by
  refine q2y (by kernel_rfl) (by simp only [go_sem, *]) (by simp only [go_sem, *]) Tryz.func259 Tryz.results259 rfl (by simp [Tryz.ntmps259]) (by kernel_rfl) ?_
  repeat' (first | (show q1a ..; first | refine q0d ?_ | refine q0p rfl ?_ | refine q1c rfl rfl ?_) | (show q1f ..; first | refine q0n rfl rfl ?_ | refine q0h rfl ?_) | (show goOn ..; first | refine q0s ?_ | refine q0u ?_ | refine q0y ?_) | (show q1k ..; refine q0j ?_) | (show wGo ..; first | refine q1v ?_ | refine q2b ?_ | refine q1x ?_ | refine q1z ?_ | refine gw_u ?_ | refine q1w (fun _ => ?_) (fun _ => ?_) | refine q2a (fun _ => ?_) (fun _ => ?_) | refine q1y (fun _ => ?_) (fun _ => ?_) | refine q2c (fun _ => ?_) (fun _ => ?_)) | (show q0i ..; first | refine q0q ?_ | refine q0c ?_ | refine q0r ?_ | refine q0f ?_ | refine q0k ?_ | refine q0w ?_ | refine q0t ?_) | (show q1d ..; first | refine cd_t ?_ | refine cd_f ?_ | refine cd_n (fun _ => ?_) (fun _ => ?_) | refine cd_b (fun _ => ?_) (fun _ => ?_)) | refine q0a ?_ | refine q0m ?_ | refine q0l ?_ | refine q0v ?_ | refine q0g ?_ | refine q0x ?_ | refine bl_pass rfl ?_ | refine q1g ?_ | refine q1e ?_ | (show retQ ..; first | refine q0o ?_ | refine q0b ?_) | refine q0e ?_)
  refine q3g (S := Nat × Nat) (fun s => s.2 - s.1) (fun s => s.1 ≤ s.2 ∧ s.2 ≤ l.length ∧ (∀ k, k < s.1 → ∀ x, l[k]? = some x → x < n) ∧ (∀ k, s.2 ≤ k → ∀ x, l[k]? = some x → ¬ x < n)) (fun s => [(0, .sl (l.map u64)), (1, .int .u64 n), (6, .int .i64 l.length), (7, .int .i64 s.1), (8, .int .i64 s.2)]) (fun _ => []) (fun _ => 0) (0, l.length) ⟨Nat.zero_le _, Nat.le_refl _, fun k hk => absurd hk (Nat.not_lt_zero k), fun k hk x hx => absurd (q5f hx) (by simp only at hk; omega)⟩ (by (refine q2q ?_ ?_ <;> repeat' (first | exact q2d | exact q2f | refine q1n (by (try simp only [go_sem, *]); try rfl) (by simp only [go_sem, *]) ?_ | refine q2g (by (try simp only [go_sem, *]); try rfl) (by omega) (by simp only [go_sem, *]) ?_ | refine q2e (by (try simp only [go_sem, *]); try rfl) (by omega) (by simp only [go_sem, *]) ?_))) ?_
  rintro ⟨i, j⟩ ⟨hij, hj, h1, h2⟩
  simp only at hij hj h1 h2
  rcases Nat.lt_or_ge i j with hlt | hge
  · obtain ⟨x, hx⟩ := q3j (by omega : (i + j) / 2 < l.length)
    have h0 := q3o hlt
    have e1 : IntKind.i64.wrap ((i : Int) + (j : Int)) = ((i + j : Nat) : Int) := by rw [IntKind.wrap_i64]; omega
    have e2 : IntKind.u64.wrap ((i + j : Nat) : Int) = ((i + j : Nat) : Int) := by rw [IntKind.wrap_u64]; omega
    have e3 : IntKind.i64.wrap (((i + j) / 2 : Nat) : Int) = (((i + j) / 2 : Nat) : Int) := by rw [IntKind.wrap_i64]; omega
    have e4 := q3d ((i + j) / 2) (by omega)
    repeat' (first | (show q1a ..; first | refine q0d ?_ | refine q0p rfl ?_ | refine q1c rfl rfl ?_) | (show q1f ..; first | refine q0n rfl rfl ?_ | refine q0h rfl ?_) | (show goOn ..; first | refine q0s ?_ | refine q0u ?_ | refine q0y ?_) | (show q1k ..; refine q0j ?_) | (show q1u ..; (refine q0z (r := ?_) ?_ ?_; rotate_left 1; (focus exact cmp_less _ _))) | (show wGo ..; first | refine q1v ?_ | refine q2b ?_ | refine q1x ?_ | refine q1z ?_ | refine gw_u ?_ | refine q1w (fun _ => ?_) (fun _ => ?_) | refine q2a (fun _ => ?_) (fun _ => ?_) | refine q1y (fun _ => ?_) (fun _ => ?_) | refine q2c (fun _ => ?_) (fun _ => ?_)) | (show q0i ..; first | refine q0q ?_ | refine q0c ?_ | refine q0r ?_ | refine q0f ?_ | refine q0k ?_ | refine q0w ?_ | refine q0t ?_) | (show q1d ..; first | refine cd_t ?_ | refine cd_f ?_ | refine cd_n (fun _ => ?_) (fun _ => ?_) | refine cd_b (fun _ => ?_) (fun _ => ?_)) | refine q0a ?_ | refine q0m ?_ | refine q0l ?_ | refine q0v ?_ | refine q0g ?_ | refine q0x ?_ | refine bl_pass rfl ?_ | refine q1g ?_ | refine q1e ?_ | (show retQ ..; first | refine q0o ?_ | refine q0b ?_) | refine q0e ?_)
    all_goals rename_i hc
    · refine again ((i + j) / 2 + 1, j) ⟨by simp only; omega, hj, fun k hk y hy => ?_, h2⟩ (by simp only; omega) (by (refine q2q ?_ ?_ <;> repeat' (first | exact q2d | exact q2f | refine q1n (by (try simp only [go_sem, *]); try rfl) (by simp only [go_sem, *]) ?_ | refine q2g (by (try simp only [go_sem, *]); try rfl) (by omega) (by simp only [go_sem, *]) ?_ | refine q2e (by (try simp only [go_sem, *]); try rfl) (by omega) (by simp only [go_sem, *]) ?_)))
      simp only at hk
      rcases Nat.lt_or_ge k ((i + j) / 2) with h | h
      · have := hs k _ y x hy hx h; have := of_decide_eq_true hc; omega
      · obtain rfl : k = (i + j) / 2 := by omega
        rw [hx] at hy; cases hy; exact of_decide_eq_true hc
    · refine again (i, (i + j) / 2) ⟨by simp only; omega, by simp only; omega, h1, fun k hk y hy => ?_⟩ (by simp only; omega) (by (refine q2q ?_ ?_ <;> repeat' (first | exact q2d | exact q2f | refine q1n (by (try simp only [go_sem, *]); try rfl) (by simp only [go_sem, *]) ?_ | refine q2g (by (try simp only [go_sem, *]); try rfl) (by omega) (by simp only [go_sem, *]) ?_ | refine q2e (by (try simp only [go_sem, *]); try rfl) (by omega) (by simp only [go_sem, *]) ?_)))
      simp only at hk
      have hc' := of_decide_eq_false hc
      rcases Nat.lt_or_ge ((i + j) / 2) k with h | h
      · have := hs _ k x y hx hy h; omega
      · obtain rfl : k = (i + j) / 2 := by omega
        rw [hx] at hy; cases hy; exact hc'
  · obtain rfl : i = j := by omega
    have h0 := q2z hge
    have hp := posZ_spot hj h1 (h2 i (Nat.le_refl _))
    have hany : l.any (· == n) = (match l[i]? with | some x => x == n | none => false) := by
      cases hx : l[i]? with
      | none =>
        simp only
        rw [List.any_eq_false]
        intro y hy
        obtain ⟨k, hk⟩ := List.getElem?_of_mem hy
        have hki : k < i := by
          rcases Nat.lt_or_ge k i with h | h
          · exact h
          · rw [List.getElem?_eq_none (by have := List.getElem?_eq_none_iff.1 hx; omega)] at hk; cases hk
        have := h1 k hki y hk
        simp; omega
      | some x =>
        simp only
        cases hxn : (x == n) with
        | true => exact List.any_eq_true.2 ⟨x, sidx hx, hxn⟩
        | false =>
          rw [List.any_eq_false]
          intro y hy
          obtain ⟨k, hk⟩ := List.getElem?_of_mem hy
          have hxn' : x ≠ n := by simpa using hxn
          have hx2 := h2 i (Nat.le_refl _) x hx
          rcases Nat.lt_trichotomy k i with h | h | h
          · have := h1 k h y hk; simp; omega
          · subst h; rw [hx] at hk; cases hk; simpa using hxn'
          · have := hs i k x y hx hk h; simp; omega
    rw [hp, hany]
    clear hany h1 h2
    rcases Nat.lt_or_ge i l.length with hil | hil
    · obtain ⟨x, hx⟩ := q3j hil
      have h3 := q3o hil
      rw [hx]
      simp only
      cases hxn : (x == n) with
      | true =>
        repeat' (first | (show q1a ..; first | refine q0d ?_ | refine q0p rfl ?_ | refine q1c rfl rfl ?_) | (show q1f ..; first | refine q0n rfl rfl ?_ | refine q0h rfl ?_) | (show goOn ..; first | refine q0s ?_ | refine q0u ?_ | refine q0y ?_) | (show q1k ..; refine q0j ?_) | (show q1u ..; (refine q0z (r := ?_) ?_ ?_; rotate_left 1; (focus exact sl_nan _))) | (show wGo ..; first | refine q1v ?_ | refine q2b ?_ | refine q1x ?_ | refine q1z ?_ | refine gw_u ?_ | refine q1w (fun _ => ?_) (fun _ => ?_) | refine q2a (fun _ => ?_) (fun _ => ?_) | refine q1y (fun _ => ?_) (fun _ => ?_) | refine q2c (fun _ => ?_) (fun _ => ?_)) | (show q0i ..; first | refine q0q ?_ | refine q0c ?_ | refine q0r ?_ | refine q0f ?_ | refine q0k ?_ | refine q0w ?_ | refine q0t ?_) | (show q1d ..; first | refine cd_t ?_ | refine cd_f ?_ | refine cd_n (fun _ => ?_) (fun _ => ?_) | refine cd_b (fun _ => ?_) (fun _ => ?_)) | refine q0a ?_ | refine q0m ?_ | refine q0l ?_ | refine q0v ?_ | refine q0g ?_ | refine q0x ?_ | refine bl_pass rfl ?_ | refine q1g ?_ | refine q1e ?_ | (show retQ ..; first | refine q0o ?_ | refine q0b ?_) | refine q0e ?_)
        all_goals rfl
      | false =>
        repeat' (first | (show q1a ..; first | refine q0d ?_ | refine q0p rfl ?_ | refine q1c rfl rfl ?_) | (show q1f ..; first | refine q0n rfl rfl ?_ | refine q0h rfl ?_) | (show goOn ..; first | refine q0s ?_ | refine q0u ?_ | refine q0y ?_) | (show q1k ..; refine q0j ?_) | (show q1u ..; (refine q0z (r := ?_) ?_ ?_; rotate_left 1; (focus exact sl_nan _))) | (show wGo ..; first | refine q1v ?_ | refine q2b ?_ | refine q1x ?_ | refine q1z ?_ | refine gw_u ?_ | refine q1w (fun _ => ?_) (fun _ => ?_) | refine q2a (fun _ => ?_) (fun _ => ?_) | refine q1y (fun _ => ?_) (fun _ => ?_) | refine q2c (fun _ => ?_) (fun _ => ?_)) | (show q0i ..; first | refine q0q ?_ | refine q0c ?_ | refine q0r ?_ | refine q0f ?_ | refine q0k ?_ | refine q0w ?_ | refine q0t ?_) | (show q1d ..; first | refine cd_t ?_ | refine cd_f ?_ | refine cd_n (fun _ => ?_) (fun _ => ?_) | refine cd_b (fun _ => ?_) (fun _ => ?_)) | refine q0a ?_ | refine q0m ?_ | refine q0l ?_ | refine q0v ?_ | refine q0g ?_ | refine q0x ?_ | refine bl_pass rfl ?_ | refine q1g ?_ | refine q1e ?_ | (show retQ ..; first | refine q0o ?_ | refine q0b ?_) | refine q0e ?_)
        all_goals rfl
    · have h3 := q2z hil
      rw [List.getElem?_eq_none hil]
      simp only
      repeat' (first | (show q1a ..; first | refine q0d ?_ | refine q0p rfl ?_ | refine q1c rfl rfl ?_) | (show q1f ..; first | refine q0n rfl rfl ?_ | refine q0h rfl ?_) | (show goOn ..; first | refine q0s ?_ | refine q0u ?_ | refine q0y ?_) | (show q1k ..; refine q0j ?_) | (show q1u ..; (refine q0z (r := ?_) ?_ ?_; rotate_left 1; (focus exact sl_nan _))) | (show wGo ..; first | refine q1v ?_ | refine q2b ?_ | refine q1x ?_ | refine q1z ?_ | refine gw_u ?_ | refine q1w (fun _ => ?_) (fun _ => ?_) | refine q2a (fun _ => ?_) (fun _ => ?_) | refine q1y (fun _ => ?_) (fun _ => ?_) | refine q2c (fun _ => ?_) (fun _ => ?_)) | (show q0i ..; first | refine q0q ?_ | refine q0c ?_ | refine q0r ?_ | refine q0f ?_ | refine q0k ?_ | refine q0w ?_ | refine q0t ?_) | (show q1d ..; first | refine cd_t ?_ | refine cd_f ?_ | refine cd_n (fun _ => ?_) (fun _ => ?_) | refine cd_b (fun _ => ?_) (fun _ => ?_)) | refine q0a ?_ | refine q0m ?_ | refine q0l ?_ | refine q0v ?_ | refine q0g ?_ | refine q0x ?_ | refine bl_pass rfl ?_ | refine q1g ?_ | refine q1e ?_ | (show retQ ..; first | refine q0o ?_ | refine q0b ?_) | refine q0e ?_)
      all_goals rfl
theorem obs_eq (t : List Pr) (o : Ob) (ht : q4i t = true) (ho : Okay o) (htl : t.length ≤ 20) : Pure Tryz.prog 260 [.sl (t.map Pr.enc), .sl ((q5e o).map Pr.enc)] (.bool (obsR t (q5e o))) := by
  have h1 := label_raise t (by omega)
  rw [raise_eq ht] at h1
  have h2 := label_leq (q5e o) (t.map upPr) (by rw [shown_len, List.length_map]; have := ho.1; omega)
  rw [leq_eq (okay_fit ho).1 (up_fit ht)] at h2
  refine q2y (by kernel_rfl) (by simp only [go_sem, *]) (by simp only [go_sem, *]) Tryz.func260 Tryz.results260 rfl (by simp [Tryz.ntmps260]) (by kernel_rfl) ?_
  repeat' (first | (show q1a ..; first | refine q0d ?_ | refine q0p rfl ?_) | (show q1f ..; first | refine q0n rfl rfl ?_ | refine q0h rfl ?_) | (show goOn ..; first | refine q0s ?_ | refine q0u ?_ | refine q0y ?_) | (show q1k ..; refine q0j ?_) | (show q1u ..; (refine q0z (r := ?_) ?_ ?_; rotate_left 1; (focus first | exact h1 | exact h2))) | (show q0i ..; first | refine q0q ?_ | refine q0c ?_ | refine q0r ?_ | refine q0f ?_) | refine q0a ?_ | refine q0m ?_ | refine q0l ?_ | (show retQ ..; first | refine q0o ?_ | refine q0b ?_) | refine q0e ?_)
  all_goals rfl
theorem sees_csat {H : Heap} {m i : Nat} (t : Ob) (w : Wd) (o : Ob) (hb : H i = some (.box (q6a t w))) (hi : i < m) (ht : q4i t.label = true) (htl : t.label.length ≤ 20) (ho : Okay o) : CSat Tryz.prog 225 [.ptr i 0, .agg (Ob.enc o)] H m (fun out H' m' => out = .ret (.bool (q7q t o)) ∧ m ≤ m' ∧ ∀ j, j < m → H' j = H j) := by
  have h1 := obj_shown o (by have := ho.1; omega)
  rw [okay_shown ho] at h1
  have h2 := obs_eq t.label o ht ho htl
  have n0 : (i = m) = False := eq_false (by omega)
  refine q4u (by kernel_rfl) Tryz.func225 Tryz.results225 rfl (by simp [Tryz.ntmps225]) (by kernel_rfl) ?_
  repeat' (first | (show q1a ..; first | refine q0d ?_ | refine q0p rfl ?_) | (show q1f ..; first | refine q0n rfl rfl ?_ | refine q0h rfl ?_) | (show goOn ..; first | refine q0s ?_ | refine q0u ?_ | refine q0y ?_) | (show q1k ..; refine q0j ?_) | (show q1u ..; (refine q0z (r := ?_) ?_ ?_; rotate_left 1; (focus first | exact h1 | exact h2))) | (show dr ..; first | refine q1l ?_ | refine dr_n rfl ?_) | (show drGo ..; first | refine q2i rfl ?_ | refine q1j rfl ?_) | (show drOn ..; first | refine q1m ?_ | refine q1q ?_ | refine q1p ?_) | (show q1o ..; refine q1b ?_) | (show q2h ..; (refine q1i (r := ?_) ?_ ?_; rotate_left 1; (focus first | exact h1 | exact h2))) | (refine And.intro (by kernel_rfl : q1r _ = true) ?_) | (show q0i ..; first | refine q0q ?_ | refine q0c ?_ | refine q1h (by kernel_rfl) ?_ | refine q0r ?_ | refine q0f ?_) | refine q0a ?_ | refine q0m ?_ | refine q0l ?_ | (show retQ ..; first | refine q0o ?_ | refine q0b ?_) | refine q0e ?_)
  refine ⟨rfl, by omega, fun j hj => q2l _ _ (by omega)⟩
theorem sees_q {H : Heap} {m i : Nat} (t : Ob) (w : Wd) (o : Ob) (hb : H i = some (.box (q6a t w))) (hi : i < m) (ht : q4i t.label = true) (htl : t.label.length ≤ 20) (ho : Okay o) : CallQ Tryz.prog 225 [.ptr i 0, .agg (Ob.enc o)] H m (.bool (q7q t o)) :=
  fun H' m' hm hH => sees_csat t w o (by rw [hH i hi]; exact hb) (by omega) ht htl ho
theorem changes_csat {H : Heap} {m i : Nat} (t : Ob) (w : Wd) (o : Ob) (hb : H i = some (.box (q6a t w))) (hi : i < m) (ht : q4i t.label = true) (htl : t.label.length ≤ 20) (ho : Okay o) : CSat Tryz.prog 246 [.ptr i 0, .agg (Ob.enc o)] H m (fun out H' m' => out = .ret (.bool (chgR t o)) ∧ m ≤ m' ∧ ∀ j, j < m → H' j = H j) := by
  have h2 := label_leq t.label o.label (by have := ho.1; omega)
  rw [leq_eq ht (okay_fit ho).2] at h2
  have n0 : (i = m) = False := eq_false (by omega)
  have hq := sees_q (H := hset H m (some (.box (Ob.enc o)))) (m := m + 1) (i := i) t w o (by rw [q2l _ _ (by omega)]; exact hb) (by omega) ht htl ho
  unfold chgR
  generalize q7q t o = b at hq
  cases b with
  | false =>
    refine q4u (by kernel_rfl) Tryz.func246 Tryz.results246 rfl (by simp [Tryz.ntmps246]) (by kernel_rfl) ?_
    repeat' (first | (show q1a ..; first | refine q0d ?_ | refine q0p rfl ?_ | refine q1c rfl rfl ?_) | (show q1f ..; first | refine q0n rfl rfl ?_ | refine q0h rfl ?_) | (show goOn ..; first | refine q0s ?_ | refine q0u ?_ | refine q0y ?_) | (show q1k ..; refine q0j ?_) | (show q1u ..; (refine q0z (r := ?_) ?_ ?_; rotate_left 1; (focus exact h2))) | (show wGo ..; first | refine q1v ?_ | refine q2b ?_ | refine q1x ?_ | refine q1z ?_ | refine gw_u ?_ | refine q1w (fun _ => ?_) (fun _ => ?_) | refine q2a (fun _ => ?_) (fun _ => ?_) | refine q1y (fun _ => ?_) (fun _ => ?_) | refine q2c (fun _ => ?_) (fun _ => ?_)) | (show dr ..; first | refine q1l ?_ | refine dr_n rfl ?_ | refine q2t rfl rfl ?_) | (show drGo ..; first | refine q2i rfl ?_ | refine q1j rfl ?_) | (show drOn ..; first | refine q1m ?_ | refine q1q ?_ | refine q1p ?_) | (show q1o ..; refine q1b ?_) | (show q2h ..; (refine q1i (r := ?_) ?_ ?_; rotate_left 1; (focus exact h2))) | (show drq ..; first | refine dq_nil ?_ | refine dq_n rfl ?_ | refine dq_w' rfl rfl ?_) | (show dqGo ..; first | refine dq_ev rfl ?_ | refine dq_call rfl ?_) | (show dqcGo ..; first | refine dqc_q ( hq) ?_ | (refine dqc_pure (r := ?_) ?_ ?_; rotate_left 1; (focus exact h2))) | (refine And.intro (by kernel_rfl : q1r _ = true) ?_) | (show q0i ..; first | refine q0q ?_ | refine q0c ?_ | refine pc_drawQ (by kernel_rfl) ?_ | refine q0r ?_ | refine q0f ?_) | refine q0a ?_ | refine q0m ?_ | refine q0l ?_ | (show retQ ..; first | refine q0o ?_ | refine q0b ?_) | refine q0e ?_)
    intro H' m' h3 h4
    repeat' (first | (show q1a ..; first | refine q0d ?_ | refine q0p rfl ?_ | refine q1c rfl rfl ?_) | (show q1f ..; first | refine q0n rfl rfl ?_ | refine q0h rfl ?_) | (show goOn ..; first | refine q0s ?_ | refine q0u ?_ | refine q0y ?_) | (show q1k ..; refine q0j ?_) | (show wGo ..; first | refine q1v ?_ | refine q2b ?_ | refine q1x ?_ | refine q1z ?_ | refine gw_u ?_ | refine q1w (fun _ => ?_) (fun _ => ?_) | refine q2a (fun _ => ?_) (fun _ => ?_) | refine q1y (fun _ => ?_) (fun _ => ?_) | refine q2c (fun _ => ?_) (fun _ => ?_)) | (show dr ..; first | refine q1l ?_ | refine dr_n rfl ?_ | refine q2t rfl rfl ?_) | (show drGo ..; first | refine q2i rfl ?_ | refine q1j rfl ?_) | (show drOn ..; first | refine q1m ?_ | refine q1q ?_ | refine q1p ?_) | (show q1o ..; refine q1b ?_) | (refine And.intro (by kernel_rfl : q1r _ = true) ?_) | (show q0i ..; first | refine q0q ?_ | refine q0c ?_ | refine q1h (by kernel_rfl) ?_ | refine q0r ?_ | refine q0f ?_) | refine q0a ?_ | refine q0m ?_ | refine q0l ?_ | (show retQ ..; first | refine q0o ?_ | refine q0b ?_) | refine q0e ?_)
    refine ⟨rfl, by omega, fun j hj => by rw [h4 j (by omega)]; exact q2l _ _ (by omega)⟩
  | true =>
    refine q4u (by kernel_rfl) Tryz.func246 Tryz.results246 rfl (by simp [Tryz.ntmps246]) (by kernel_rfl) ?_
    repeat' (first | (show q1a ..; first | refine q0d ?_ | refine q0p rfl ?_ | refine q1c rfl rfl ?_) | (show q1f ..; first | refine q0n rfl rfl ?_ | refine q0h rfl ?_) | (show goOn ..; first | refine q0s ?_ | refine q0u ?_ | refine q0y ?_) | (show q1k ..; refine q0j ?_) | (show q1u ..; (refine q0z (r := ?_) ?_ ?_; rotate_left 1; (focus exact h2))) | (show wGo ..; first | refine q1v ?_ | refine q2b ?_ | refine q1x ?_ | refine q1z ?_ | refine gw_u ?_ | refine q1w (fun _ => ?_) (fun _ => ?_) | refine q2a (fun _ => ?_) (fun _ => ?_) | refine q1y (fun _ => ?_) (fun _ => ?_) | refine q2c (fun _ => ?_) (fun _ => ?_)) | (show dr ..; first | refine q1l ?_ | refine dr_n rfl ?_ | refine q2t rfl rfl ?_) | (show drGo ..; first | refine q2i rfl ?_ | refine q1j rfl ?_) | (show drOn ..; first | refine q1m ?_ | refine q1q ?_ | refine q1p ?_) | (show q1o ..; refine q1b ?_) | (show q2h ..; (refine q1i (r := ?_) ?_ ?_; rotate_left 1; (focus exact h2))) | (show drq ..; first | refine dq_nil ?_ | refine dq_n rfl ?_ | refine dq_w' rfl rfl ?_) | (show dqGo ..; first | refine dq_ev rfl ?_ | refine dq_call rfl ?_) | (show dqcGo ..; first | refine dqc_q ( hq) ?_ | (refine dqc_pure (r := ?_) ?_ ?_; rotate_left 1; (focus exact h2))) | (refine And.intro (by kernel_rfl : q1r _ = true) ?_) | (show q0i ..; first | refine q0q ?_ | refine q0c ?_ | refine pc_drawQ (by kernel_rfl) ?_ | refine q0r ?_ | refine q0f ?_) | refine q0a ?_ | refine q0m ?_ | refine q0l ?_ | (show retQ ..; first | refine q0o ?_ | refine q0b ?_) | refine q0e ?_)
    intro H' m' h3 h4
    repeat' (first | (show q1a ..; first | refine q0d ?_ | refine q0p rfl ?_ | refine q1c rfl rfl ?_) | (show q1f ..; first | refine q0n rfl rfl ?_ | refine q0h rfl ?_) | (show goOn ..; first | refine q0s ?_ | refine q0u ?_ | refine q0y ?_) | (show q1k ..; refine q0j ?_) | (show wGo ..; first | refine q1v ?_ | refine q2b ?_ | refine q1x ?_ | refine q1z ?_ | refine gw_u ?_ | refine q1w (fun _ => ?_) (fun _ => ?_) | refine q2a (fun _ => ?_) (fun _ => ?_) | refine q1y (fun _ => ?_) (fun _ => ?_) | refine q2c (fun _ => ?_) (fun _ => ?_)) | (show dr ..; first | refine q1l ?_ | refine dr_n rfl ?_ | refine q2t rfl rfl ?_) | (show drGo ..; first | refine q2i rfl ?_ | refine q1j rfl ?_) | (show drOn ..; first | refine q1m ?_ | refine q1q ?_ | refine q1p ?_) | (show q1o ..; refine q1b ?_) | (refine And.intro (by kernel_rfl : q1r _ = true) ?_) | (show q0i ..; first | refine q0q ?_ | refine q0c ?_ | refine q1h (by kernel_rfl) ?_ | refine q0r ?_ | refine q0f ?_) | refine q0a ?_ | refine q0m ?_ | refine q0l ?_ | (show retQ ..; first | refine q0o ?_ | refine q0b ?_) | refine q0e ?_)
    refine ⟨rfl, by omega, fun j hj => by rw [h4 j (by omega)]; exact q2l _ _ (by omega)⟩
theorem must_yes (H : Heap) (m : Nat) (p : PV) (e : Int) : CSat Tryz.prog 224 [p, .bool true, .int .i64 e] H m (fun out H' m' => (∃ r, out = .ret r) ∧ H' = H ∧ m' = m) := by
  refine q4u (by kernel_rfl) Tryz.func224 Tryz.results224 rfl (by simp [Tryz.ntmps224]) (by kernel_rfl) ?_
  repeat' (first | (show q1a ..; first | refine q0d ?_ | refine q0p rfl ?_) | (show q1f ..; refine q0n rfl rfl ?_) | (show goOn ..; refine q0s ?_) | (show q0i ..; first | refine q0q ?_ | refine q0c ?_ | refine q0r ?_ | refine q0f ?_ | refine q0t ?_) | (show q1d ..; first | refine cd_t ?_ | refine cd_f ?_ | refine cd_n (fun _ => ?_) (fun _ => ?_) | refine cd_b (fun _ => ?_) (fun _ => ?_)) | refine q0a ?_ | refine q0m ?_ | refine q0l ?_ | (show retQ ..; first | refine q0o ?_ | refine q0b ?_) | refine q0e ?_)
  exact ⟨⟨_, rfl⟩, rfl, rfl⟩
theorem must_no (H : Heap) (m : Nat) (p : PV) (e : Int) : CSat Tryz.prog 224 [p, .bool false, .int .i64 e] H m (fun out H' m' => out = .pan (thr e) ∧ H' = H ∧ m' = m) := by
  refine q4u (by kernel_rfl) Tryz.func224 Tryz.results224 rfl (by simp [Tryz.ntmps224]) (by kernel_rfl) ?_
  repeat' (first | (show q1a ..; first | refine q0d ?_ | refine q0p rfl ?_) | (show q1f ..; refine q0n rfl rfl ?_) | (show goOn ..; refine q0s ?_) | (show q0i ..; first | refine q0q ?_ | refine q0c ?_ | refine q0r ?_ | refine q0f ?_ | refine q0t ?_) | (show q1d ..; first | refine cd_t ?_ | refine cd_f ?_ | refine cd_n (fun _ => ?_) (fun _ => ?_) | refine cd_b (fun _ => ?_) (fun _ => ?_)) | refine q0a ?_ | refine q0m ?_ | refine q0l ?_ | (show retQ ..; first | refine q0o ?_ | refine q0b ?_) | refine q0e ?_)
  refine run_panic rfl rfl (by (try simp only [go_sem]); exact nm) (pan_some ?_)
  repeat' (first | refine q0l ?_ | refine q1e ?_ | refine q4x ?_)
  exact ⟨rfl, rfl, rfl⟩
def outE (r : Ob × Int) : Out := if (r.2 == 0) = true then .ret (.agg (Ob.enc r.1)) else .pan (thr r.2)
theorem dir_csat {H : Heap} {m i : Nat} (t : Ob) (w : Wd) (id : Int) (write : Bool) (hb : H i = some (.box (q6a t w))) (hi : i < m) (ht : q4i t.label = true) (htl : t.label.length ≤ 20) (hf : FewW w) (hw : q5h w = true) :
    CSat Tryz.prog 258 [.ptr i 0, .int .u64 id, .bool write] H m (fun out H' m' => out = outE (dirR w t id write) ∧ m ≤ m' ∧ ∀ j, j < m → H' j = H j) := by
  have hn := hf.n
  have h1 := obj_find w id (by omega) (q5d hw).1
  rw [findO_eq (q5d hw).1] at h1
  have ho := q7y hf hw id
  unfold dirR
  generalize q2p w id = F at h1 ho
  obtain ⟨d, ok⟩ := F
  simp only at h1 ho ⊢
  have n0 : (i = m) = False := eq_false (by omega)
  have n1 : (i = m + 1) = False := eq_false (by omega)
  have n2 : (i = m + 1 + 1) = False := eq_false (by omega)
  have seesC := fun (H : Heap) (m : Nat) (hb : H i = some (.box (q6a t w))) (hi : i < m) => sees_csat (H := H) (m := m) t w d hb hi ht htl ho
  have chgC := fun (H : Heap) (m : Nat) (hb : H i = some (.box (q6a t w))) (hi : i < m) => changes_csat (H := H) (m := m) t w d hb hi ht htl ho
  generalize q7q t d = b2 at seesC ⊢
  generalize chgR t d = b3 at chgC ⊢
  cases ok with
  | false =>
    refine q4u (by kernel_rfl) Tryz.func258 Tryz.results258 rfl (by simp [Tryz.ntmps258]) (by kernel_rfl) ?_
    repeat' (first | (show q1a ..; first | refine q0d ?_ | refine q0p rfl ?_ | refine q1c rfl rfl ?_) | (show q1f ..; first | refine q0n rfl rfl ?_ | refine q0h rfl ?_) | (show goOn ..; first | refine q0s ?_ | refine q0u ?_ | refine q0y ?_) | (show q1k ..; refine q0j ?_) | (show q1u ..; (refine q0z (r := ?_) ?_ ?_; rotate_left 1; (focus exact h1))) | (show wGo ..; first | refine q1v ?_ | refine q2b ?_ | refine q1x ?_ | refine q1z ?_ | refine gw_u ?_ | refine q1w (fun _ => ?_) (fun _ => ?_) | refine q2a (fun _ => ?_) (fun _ => ?_) | refine q1y (fun _ => ?_) (fun _ => ?_) | refine q2c (fun _ => ?_) (fun _ => ?_)) | (show q0i ..; first | refine q0q ?_ | refine q0c ?_ | refine q0r ?_ | refine q0f ?_) | refine q0a ?_ | refine q0m ?_ | refine q0l ?_ | (show retQ ..; first | refine q0o ?_ | refine q0b ?_) | refine q0e ?_)
    (refine q2j (by kernel_rfl) (must_no _ _ _ _) ?_ ?_)
    case refine_1 => rintro r H' m' ⟨h, _⟩; cases h
    rintro p H' m' ⟨h, rfl, rfl⟩
    cases h
    repeat' (first | refine q0l ?_ | refine q1e ?_ | refine q4x ?_)
    exact ⟨rfl, by omega, (fun j hj => by repeat rw [q2l _ _ (by omega)])⟩
  | true =>
  cases hk : (d.kind == 2) with
  | false =>
    refine q4u (by kernel_rfl) Tryz.func258 Tryz.results258 rfl (by simp [Tryz.ntmps258]) (by kernel_rfl) ?_
    repeat' (first | (show q1a ..; first | refine q0d ?_ | refine q0p rfl ?_ | refine q1c rfl rfl ?_) | (show q1f ..; first | refine q0n rfl rfl ?_ | refine q0h rfl ?_) | (show goOn ..; first | refine q0s ?_ | refine q0u ?_ | refine q0y ?_) | (show q1k ..; refine q0j ?_) | (show q1u ..; (refine q0z (r := ?_) ?_ ?_; rotate_left 1; (focus exact h1))) | (show wGo ..; first | refine q1v ?_ | refine q2b ?_ | refine q1x ?_ | refine q1z ?_ | refine gw_u ?_ | refine q1w (fun _ => ?_) (fun _ => ?_) | refine q2a (fun _ => ?_) (fun _ => ?_) | refine q1y (fun _ => ?_) (fun _ => ?_) | refine q2c (fun _ => ?_) (fun _ => ?_)) | (show q0i ..; first | refine q0q ?_ | refine q0c ?_ | refine q0r ?_ | refine q0f ?_) | refine q0a ?_ | refine q0m ?_ | refine q0l ?_ | (show retQ ..; first | refine q0o ?_ | refine q0b ?_) | refine q0e ?_)
    (refine q2j (by kernel_rfl) (must_no _ _ _ _) ?_ ?_)
    case refine_1 => rintro r H' m' ⟨h, _⟩; cases h
    rintro p H' m' ⟨h, rfl, rfl⟩
    cases h
    repeat' (first | refine q0l ?_ | refine q1e ?_ | refine q4x ?_)
    exact ⟨rfl, by omega, (fun j hj => by repeat rw [q2l _ _ (by omega)])⟩
  | true =>
  cases b2 with
  | false =>
    refine q4u (by kernel_rfl) Tryz.func258 Tryz.results258 rfl (by simp [Tryz.ntmps258]) (by kernel_rfl) ?_
    repeat' (first | (show q1a ..; first | refine q0d ?_ | refine q0p rfl ?_ | refine q1c rfl rfl ?_) | (show q1f ..; first | refine q0n rfl rfl ?_ | refine q0h rfl ?_) | (show goOn ..; first | refine q0s ?_ | refine q0u ?_ | refine q0y ?_) | (show q1k ..; refine q0j ?_) | (show q1u ..; (refine q0z (r := ?_) ?_ ?_; rotate_left 1; (focus exact h1))) | (show wGo ..; first | refine q1v ?_ | refine q2b ?_ | refine q1x ?_ | refine q1z ?_ | refine gw_u ?_ | refine q1w (fun _ => ?_) (fun _ => ?_) | refine q2a (fun _ => ?_) (fun _ => ?_) | refine q1y (fun _ => ?_) (fun _ => ?_) | refine q2c (fun _ => ?_) (fun _ => ?_)) | (show q0i ..; first | refine q0q ?_ | refine q0c ?_ | refine q0r ?_ | refine q0f ?_) | refine q0a ?_ | refine q0m ?_ | refine q0l ?_ | (show retQ ..; first | refine q0o ?_ | refine q0b ?_) | refine q0e ?_)
    (refine q2j (by kernel_rfl) (seesC _ _ (by simp only [go_sem, *]) (by omega)) ?_ ?_)
    case refine_2 => rintro p H' m' ⟨h, _⟩; cases h
    rintro r H1 m1 ⟨h, L1, A1⟩
    cases h
    repeat' (first | (show q1a ..; first | refine q0d ?_ | refine q0p rfl ?_ | refine q1c rfl rfl ?_) | (show q1f ..; first | refine q0n rfl rfl ?_ | refine q0h rfl ?_) | (show goOn ..; first | refine q0s ?_ | refine q0u ?_ | refine q0y ?_) | (show q1k ..; refine q0j ?_) | (show wGo ..; first | refine q1v ?_ | refine q2b ?_ | refine q1x ?_ | refine q1z ?_ | refine gw_u ?_ | refine q1w (fun _ => ?_) (fun _ => ?_) | refine q2a (fun _ => ?_) (fun _ => ?_) | refine q1y (fun _ => ?_) (fun _ => ?_) | refine q2c (fun _ => ?_) (fun _ => ?_)) | (show q0i ..; first | refine q0q ?_ | refine q0c ?_ | refine q0r ?_ | refine q0f ?_) | refine q0a ?_ | refine q0m ?_ | refine q0l ?_ | (show retQ ..; first | refine q0o ?_ | refine q0b ?_) | refine q0e ?_)
    (refine q2j (by kernel_rfl) (must_no _ _ _ _) ?_ ?_)
    case refine_1 => rintro r H' m' ⟨h, _⟩; cases h
    rintro p H' m' ⟨h, rfl, rfl⟩
    cases h
    repeat' (first | refine q0l ?_ | refine q1e ?_ | refine q4x ?_)
    exact ⟨rfl, by omega, (fun j hj => by rw [A1 j (by omega)]; repeat rw [q2l _ _ (by omega)])⟩
  | true =>
    refine q4u (by kernel_rfl) Tryz.func258 Tryz.results258 rfl (by simp [Tryz.ntmps258]) (by kernel_rfl) ?_
    repeat' (first | (show q1a ..; first | refine q0d ?_ | refine q0p rfl ?_ | refine q1c rfl rfl ?_) | (show q1f ..; first | refine q0n rfl rfl ?_ | refine q0h rfl ?_) | (show goOn ..; first | refine q0s ?_ | refine q0u ?_ | refine q0y ?_) | (show q1k ..; refine q0j ?_) | (show q1u ..; (refine q0z (r := ?_) ?_ ?_; rotate_left 1; (focus exact h1))) | (show wGo ..; first | refine q1v ?_ | refine q2b ?_ | refine q1x ?_ | refine q1z ?_ | refine gw_u ?_ | refine q1w (fun _ => ?_) (fun _ => ?_) | refine q2a (fun _ => ?_) (fun _ => ?_) | refine q1y (fun _ => ?_) (fun _ => ?_) | refine q2c (fun _ => ?_) (fun _ => ?_)) | (show q0i ..; first | refine q0q ?_ | refine q0c ?_ | refine q0r ?_ | refine q0f ?_) | refine q0a ?_ | refine q0m ?_ | refine q0l ?_ | (show retQ ..; first | refine q0o ?_ | refine q0b ?_) | refine q0e ?_)
    (refine q2j (by kernel_rfl) (seesC _ _ (by simp only [go_sem, *]) (by omega)) ?_ ?_)
    case refine_2 => rintro p H' m' ⟨h, _⟩; cases h
    rintro r H1 m1 ⟨h, L1, A1⟩
    cases h
    have low : ∀ j, j < m → H1 j = H j := fun j hj => by rw [A1 j (by omega)]; repeat rw [q2l _ _ (by omega)]
    have c0 : H1 i = some (.box (q6a t w)) := by rw [A1 i (by omega)]; simp only [go_sem, *]
    have c1 : H1 (m + 1) = some (.box (Ob.enc d)) := by rw [A1 (m + 1) (by omega)]; simp only [go_sem, *]
    have c2 : H1 m = some (.box (Ob.enc Ob.zero)) := by rw [A1 m (by omega)]; simp only [go_sem, *]
    clear A1
    repeat' (first | (show q1a ..; first | refine q0d ?_ | refine q0p rfl ?_ | refine q1c rfl rfl ?_) | (show q1f ..; first | refine q0n rfl rfl ?_ | refine q0h rfl ?_) | (show goOn ..; first | refine q0s ?_ | refine q0u ?_ | refine q0y ?_) | (show q1k ..; refine q0j ?_) | (show wGo ..; first | refine q1v ?_ | refine q2b ?_ | refine q1x ?_ | refine q1z ?_ | refine gw_u ?_ | refine q1w (fun _ => ?_) (fun _ => ?_) | refine q2a (fun _ => ?_) (fun _ => ?_) | refine q1y (fun _ => ?_) (fun _ => ?_) | refine q2c (fun _ => ?_) (fun _ => ?_)) | (show q0i ..; first | refine q0q ?_ | refine q0c ?_ | refine q0r ?_ | refine q0f ?_) | refine q0a ?_ | refine q0m ?_ | refine q0l ?_ | (show retQ ..; first | refine q0o ?_ | refine q0b ?_) | refine q0e ?_)
    (refine q2j (by kernel_rfl) (must_yes _ _ _ _) ?_ ?_)
    case refine_2 => rintro p H' m' ⟨⟨_, h⟩, _⟩; cases h
    rintro r H' m' ⟨⟨_, h⟩, rfl, rfl⟩
    clear h
    cases write with
    | false =>
      repeat' (first | (show q1a ..; first | refine q0d ?_ | refine q0p rfl ?_ | refine q1c rfl rfl ?_) | (show q1f ..; first | refine q0n rfl rfl ?_ | refine q0h rfl ?_) | (show goOn ..; first | refine q0s ?_ | refine q0u ?_ | refine q0y ?_) | (show q1k ..; refine q0j ?_) | (show wGo ..; first | refine q1v ?_ | refine q2b ?_ | refine q1x ?_ | refine q1z ?_ | refine gw_u ?_ | refine q1w (fun _ => ?_) (fun _ => ?_) | refine q2a (fun _ => ?_) (fun _ => ?_) | refine q1y (fun _ => ?_) (fun _ => ?_) | refine q2c (fun _ => ?_) (fun _ => ?_)) | (show q0i ..; first | refine q0q ?_ | refine q0c ?_ | refine q0r ?_ | refine q0f ?_) | refine q0a ?_ | refine q0m ?_ | refine q0l ?_ | (show retQ ..; first | refine q0o ?_ | refine q0b ?_) | refine q0e ?_)
      (refine q2j (by kernel_rfl) (must_yes _ _ _ _) ?_ ?_)
      case refine_2 => rintro p H' m' ⟨⟨_, h⟩, _⟩; cases h
      rintro r H' m' ⟨⟨_, h⟩, rfl, rfl⟩
      clear h
      repeat' (first | (show q1a ..; first | refine q0d ?_ | refine q0p rfl ?_ | refine q1c rfl rfl ?_) | (show q1f ..; first | refine q0n rfl rfl ?_ | refine q0h rfl ?_) | (show goOn ..; first | refine q0s ?_ | refine q0u ?_ | refine q0y ?_) | (show q1k ..; refine q0j ?_) | (show wGo ..; first | refine q1v ?_ | refine q2b ?_ | refine q1x ?_ | refine q1z ?_ | refine gw_u ?_ | refine q1w (fun _ => ?_) (fun _ => ?_) | refine q2a (fun _ => ?_) (fun _ => ?_) | refine q1y (fun _ => ?_) (fun _ => ?_) | refine q2c (fun _ => ?_) (fun _ => ?_)) | (show q0i ..; first | refine q0q ?_ | refine q0c ?_ | refine q0r ?_ | refine q0f ?_) | refine q0a ?_ | refine q0m ?_ | refine q0l ?_ | (show retQ ..; first | refine q0o ?_ | refine q0b ?_) | refine q0e ?_)
      exact ⟨rfl, by omega, fun j hj => by rw [q2l _ _ (by omega)]; exact low j hj⟩
    | true =>
      repeat' (first | (show q1a ..; first | refine q0d ?_ | refine q0p rfl ?_ | refine q1c rfl rfl ?_) | (show q1f ..; first | refine q0n rfl rfl ?_ | refine q0h rfl ?_) | (show goOn ..; first | refine q0s ?_ | refine q0u ?_ | refine q0y ?_) | (show q1k ..; refine q0j ?_) | (show wGo ..; first | refine q1v ?_ | refine q2b ?_ | refine q1x ?_ | refine q1z ?_ | refine gw_u ?_ | refine q1w (fun _ => ?_) (fun _ => ?_) | refine q2a (fun _ => ?_) (fun _ => ?_) | refine q1y (fun _ => ?_) (fun _ => ?_) | refine q2c (fun _ => ?_) (fun _ => ?_)) | (show q0i ..; first | refine q0q ?_ | refine q0c ?_ | refine q0r ?_ | refine q0f ?_) | refine q0a ?_ | refine q0m ?_ | refine q0l ?_ | (show retQ ..; first | refine q0o ?_ | refine q0b ?_) | refine q0e ?_)
      (refine q2j (by kernel_rfl) (chgC _ _ c0 (by omega)) ?_ ?_)
      case refine_2 => rintro p H' m' ⟨h, _⟩; cases h
      rintro r H2 m2 ⟨h, L2, A2⟩
      cases h
      have low2 : ∀ j, j < m → H2 j = H j := fun j hj => by rw [A2 j (by omega)]; exact low j hj
      have e1 : H2 (m + 1) = some (.box (Ob.enc d)) := by rw [A2 (m + 1) (by omega)]; exact c1
      have e2 : H2 m = some (.box (Ob.enc Ob.zero)) := by rw [A2 m (by omega)]; exact c2
      clear A2 low c0 c1 c2
      cases b3 with
      | false =>
        repeat' (first | (show q1a ..; first | refine q0d ?_ | refine q0p rfl ?_ | refine q1c rfl rfl ?_) | (show q1f ..; first | refine q0n rfl rfl ?_ | refine q0h rfl ?_) | (show goOn ..; first | refine q0s ?_ | refine q0u ?_ | refine q0y ?_) | (show q1k ..; refine q0j ?_) | (show wGo ..; first | refine q1v ?_ | refine q2b ?_ | refine q1x ?_ | refine q1z ?_ | refine gw_u ?_ | refine q1w (fun _ => ?_) (fun _ => ?_) | refine q2a (fun _ => ?_) (fun _ => ?_) | refine q1y (fun _ => ?_) (fun _ => ?_) | refine q2c (fun _ => ?_) (fun _ => ?_)) | (show q0i ..; first | refine q0q ?_ | refine q0c ?_ | refine q0r ?_ | refine q0f ?_) | refine q0a ?_ | refine q0m ?_ | refine q0l ?_ | (show retQ ..; first | refine q0o ?_ | refine q0b ?_) | refine q0e ?_)
        (refine q2j (by kernel_rfl) (must_no _ _ _ _) ?_ ?_)
        case refine_1 => rintro r H' m' ⟨h, _⟩; cases h
        rintro p H' m' ⟨h, rfl, rfl⟩
        cases h
        repeat' (first | refine q0l ?_ | refine q1e ?_ | refine q4x ?_)
        exact ⟨rfl, by omega, low2⟩
      | true =>
        repeat' (first | (show q1a ..; first | refine q0d ?_ | refine q0p rfl ?_ | refine q1c rfl rfl ?_) | (show q1f ..; first | refine q0n rfl rfl ?_ | refine q0h rfl ?_) | (show goOn ..; first | refine q0s ?_ | refine q0u ?_ | refine q0y ?_) | (show q1k ..; refine q0j ?_) | (show wGo ..; first | refine q1v ?_ | refine q2b ?_ | refine q1x ?_ | refine q1z ?_ | refine gw_u ?_ | refine q1w (fun _ => ?_) (fun _ => ?_) | refine q2a (fun _ => ?_) (fun _ => ?_) | refine q1y (fun _ => ?_) (fun _ => ?_) | refine q2c (fun _ => ?_) (fun _ => ?_)) | (show q0i ..; first | refine q0q ?_ | refine q0c ?_ | refine q0r ?_ | refine q0f ?_) | refine q0a ?_ | refine q0m ?_ | refine q0l ?_ | (show retQ ..; first | refine q0o ?_ | refine q0b ?_) | refine q0e ?_)
        (refine q2j (by kernel_rfl) (must_yes _ _ _ _) ?_ ?_)
        case refine_2 => rintro p H' m' ⟨⟨_, h⟩, _⟩; cases h
        rintro r H' m' ⟨⟨_, h⟩, rfl, rfl⟩
        clear h
        repeat' (first | (show q1a ..; first | refine q0d ?_ | refine q0p rfl ?_ | refine q1c rfl rfl ?_) | (show q1f ..; first | refine q0n rfl rfl ?_ | refine q0h rfl ?_) | (show goOn ..; first | refine q0s ?_ | refine q0u ?_ | refine q0y ?_) | (show q1k ..; refine q0j ?_) | (show wGo ..; first | refine q1v ?_ | refine q2b ?_ | refine q1x ?_ | refine q1z ?_ | refine gw_u ?_ | refine q1w (fun _ => ?_) (fun _ => ?_) | refine q2a (fun _ => ?_) (fun _ => ?_) | refine q1y (fun _ => ?_) (fun _ => ?_) | refine q2c (fun _ => ?_) (fun _ => ?_)) | (show q0i ..; first | refine q0q ?_ | refine q0c ?_ | refine q0r ?_ | refine q0f ?_) | refine q0a ?_ | refine q0m ?_ | refine q0l ?_ | (show retQ ..; first | refine q0o ?_ | refine q0b ?_) | refine q0e ?_)
        exact ⟨rfl, by omega, fun j hj => by rw [q2l _ _ (by omega)]; exact low2 j hj⟩
end Go.Proofs.YteibeoipnjhicaaGreat
