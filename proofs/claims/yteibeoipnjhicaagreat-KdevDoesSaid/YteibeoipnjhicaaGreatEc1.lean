import Derived.Test.YteibeoipnjhicaaGreatEa8
import Derived.Test.YteibeoipnjhicaaGreatRzA
namespace Go.Proofs.YteibeoipnjhicaaGreat
open Go Go.RowKit
set_option linter.unusedVariables false
set_option linter.unusedSimpArgs false
set_option maxHeartbeats 16000000
set_option maxRecDepth 100000
@[go_sem high] theorem half_ev (t : TypeId) (n : Nat) : q4a Tryz.prog .shr t (.int .u64 (n : Int)) (.int .u64 1) = some (.int .u64 ((n / 2 : Nat) : Int)) := by
  have : (n : Int).fdiv (2 ^ min (1 : Int).toNat IntKind.u64.bits) = ((n / 2 : Nat) : Int) := by
    rw [show (2 : Int) ^ min (1 : Int).toNat IntKind.u64.bits = 2 by decide, Int.fdiv_eq_ediv_of_nonneg _ (by decide)]; omega
  show q9z .shr .u64 n 1 = _
  unfold q9z
  rw [if_neg (by decide), this]
def LsO (l : List Ob) : Ls := ⟨l, .fn (.func 161) [] []⟩
@[go_sem] theorem lsO_things (l : List Ob) : (LsO l).things = l := rfl
@[go_sem] theorem lsO_idf (l : List Ob) : (LsO l).idf = .fn (.func 161) [] [] := rfl
def lsG (l : List Ob) : List (Nat × HE) := [(0, .box (Ls.enc (LsO l)))]
theorem lsG_bd (S : Nat → Prop) (l : List Ob) : BdL S (Ls.enc (LsO l)) := by
  show BdL S ([.sl (List.map Ob.enc l)] ++ [.fn (.func 161) [] []])
  simp only [go_sem]
theorem lsG_1 (l : List Ob) : ∀ i, 1 ≤ i → q3h (lsG l) i = none := fun i hi => by unfold lsG; rw [heapL_cons, if_neg (by omega)]; rfl
theorem lsG_2 (l : List Ob) : ∀ i k, q3h (lsG l) i = some (.box k) → ∀ p ∈ k, Bd (LV (q3h (lsG l))) p := fun i k h => by
  unfold lsG at h
  rw [heapL_cons] at h
  split at h
  · cases h; exact lsG_bd _ l
  · cases h
theorem lsG_3 (l : List Ob) : ∀ i e sz els, q3h (lsG l) i ≠ some (.row e sz els) := fun i e sz els h => by
  unfold lsG at h
  rw [heapL_cons] at h
  split at h <;> cases h
theorem lsG_lv (l : List Ob) : LV (q3h (lsG l)) 0 := by unfold lsG; simp only [go_sem]
theorem keepK_i {m0 : Nat} {G : List (Nat × HE)} {env : Env} {H : Heap} {E : List (Nat × PV)} (h1 : ∀ i, i < m0 → H i = q3h G i) (h2 : KE (LV (q3h G)) env E) : q3z m0 G env H E := ⟨h1, h2⟩
attribute [local irreducible] q1a dr q0i Ex.then Ex.inBlock retQ q1r q3f q3e Pure CSat evOp q2r rdOf upd hset strip sp0 cut envL q3h q4c Keep BdL evBs q3n q3z
def cmpZ (x y : Int) : Int := if decide (x < y) = true then -1 else if decide (x > y) = true then 1 else 0
theorem cmp_nan (x : Int) : Pure Tryz.prog 218 [.int .u64 x] (.bool false) := by
  refine q2y (by kernel_rfl) (by simp only [go_sem, *]) (by simp only [go_sem, *]) Tryz.func218 Tryz.results218 rfl (by simp [Tryz.ntmps218]) (by kernel_rfl) ?_
  repeat' (first | (show q1a ..; first | refine q0d ?_ | refine q0p rfl ?_) | (show q1f ..; refine q0n rfl rfl ?_) | (show goOn ..; refine q0s ?_) | (show q0i ..; first | refine q0q ?_ | refine q0c ?_ | refine q0r ?_ | refine q0f ?_) | refine q0a ?_ | refine q0m ?_ | refine q0l ?_ | (show retQ ..; first | refine q0o ?_ | refine q0b ?_) | refine q0e ?_)
  all_goals rfl
theorem cmp_u (x y : Int) : Pure Tryz.prog 164 [.int .u64 x, .int .u64 y] (.int .i64 (cmpZ x y)) := by
  refine q2y (by kernel_rfl) (by simp only [go_sem, *]) (by simp only [go_sem, *]) Tryz.func164 Tryz.results164 rfl (by simp [Tryz.ntmps164]) (by kernel_rfl) ?_
  repeat' (first | (show q1a ..; first | refine q0d ?_ | refine q0p rfl ?_) | (show q1f ..; first | refine q0n rfl rfl ?_ | refine q0h rfl ?_) | (show goOn ..; first | refine q0s ?_ | refine q0u ?_ | refine q0y ?_) | (show q1k ..; refine q0j ?_) | (show q1u ..; (refine q0z (r := ?_) ?_ ?_; rotate_left 1; (focus exact cmp_nan _))) | (show q0i ..; first | refine q0q ?_ | refine q0c ?_ | refine q0r ?_ | refine q0f ?_ | refine q0t ?_) | (show q1d ..; first | refine cd_t ?_ | refine cd_f ?_ | refine cd_n (fun _ => ?_) (fun _ => ?_) | refine cd_b (fun _ => ?_) (fun _ => ?_)) | refine q0a ?_ | refine q0m ?_ | refine q0l ?_ | (show retQ ..; first | refine q0o ?_ | refine q0b ?_) | refine q0e ?_)
  all_goals (unfold cmpZ; simp only [*, if_true, if_false, Bool.false_eq_true]; try rfl)
theorem at1_ob (l : List Ob) (x : Ob) (id : Int) : CSat Tryz.prog 163 [.agg (Ob.enc x), .int .u64 id, .ptr 0 0] (q3h (lsG l)) 1 (fun out H' m' => out = .ret (.int .i64 (cmpZ x.id id)) ∧ 1 ≤ m' ∧ ∀ i, i < 1 → H' i = q3h (lsG l) i) := by
  refine q4u (by kernel_rfl) Tryz.func163 Tryz.results163 rfl (by simp [Tryz.ntmps163]) (by kernel_rfl) ?_
  unfold lsG
  repeat' (first | (show q1a ..; first | refine q0d ?_ | refine q0p rfl ?_) | (show q1f ..; first | refine q0n rfl rfl ?_ | refine q0h rfl ?_) | (show goOn ..; first | refine q0s ?_ | refine q0u ?_ | refine q0y ?_) | (show q1k ..; refine q0j ?_) | (show q1u ..; (refine q0z (r := ?_) ?_ ?_; rotate_left 1; (focus first | exact q9t _ | exact cmp_u _ _))) | (show q0i ..; first | refine q0q ?_ | refine q0c ?_ | refine q0r ?_ | refine q0f ?_) | refine q0a ?_ | refine q0m ?_ | refine q0l ?_ | (show retQ ..; first | refine q0o ?_ | refine q0b ?_) | refine q0e ?_)
  refine ⟨rfl, by omega, fun i hi => ?_⟩
  obtain rfl : i = 0 := by omega
  exact q2l _ _ (by decide)
def RisO (l : List Ob) : Prop := ∀ (i j : Nat) (x y : Ob), l[i]? = some x → l[j]? = some y → i < j → x.id < y.id
def posO (l : List Ob) (id : Int) : Nat := (l.takeWhile (fun x => decide (x.id < id))).length
def hitO (l : List Ob) (id : Int) : Bool := match l[posO l id]? with
  | some x => x.id == id
  | none => false
theorem pos_le (l : List Ob) (id : Int) : posO l id ≤ l.length := by
  unfold posO; exact List.Sublist.length_le (List.takeWhile_sublist _)
theorem pos_spot {l : List Ob} {id : Int} {n : Nat} (hn : n ≤ l.length) (h1 : ∀ k, k < n → ∀ x, l[k]? = some x → x.id < id) (h2 : ∀ x, l[n]? = some x → ¬ x.id < id) : posO l id = n := by
  unfold posO
  induction l generalizing n with
  | nil => simp at hn; subst hn; rfl
  | cons a l ih =>
    cases n with
    | zero =>
      have := h2 a rfl
      rw [List.takeWhile_cons, if_neg (by simpa using this)]; rfl
    | succ n =>
      have := h1 0 (by omega) a rfl
      rw [List.takeWhile_cons, if_pos (by simpa using this), List.length_cons, ih (by simpa using hn) (fun k hk x hx => h1 (k + 1) (by omega) x (by simpa using hx)) (fun x hx => h2 x (by simpa using hx))]
theorem cmpZ_lt (x y : Int) : decide (cmpZ x y < 0) = decide (x < y) := by
  unfold cmpZ
  by_cases h : x < y
  · rw [if_pos (decide_eq_true h), decide_eq_true h]; rfl
  · rw [if_neg (by simpa using h), decide_eq_false h]; split <;> rfl
theorem cmpZ_eq (x y : Int) : (cmpZ x y == 0) = (x == y) := by
  unfold cmpZ
  by_cases h : x < y
  · rw [if_pos (decide_eq_true h)]; have : (x == y) = false := by simpa using (by omega : x ≠ y)
    rw [this]; rfl
  · rw [if_neg (by simpa using h)]
    by_cases h2 : x > y
    · rw [if_pos (decide_eq_true h2)]; have : (x == y) = false := by simpa using (by omega : x ≠ y)
      rw [this]; rfl
    · rw [if_neg (by simpa using h2)]; have : (x == y) = true := by simpa using (by omega : x = y)
      rw [this]; rfl
theorem search_ob (l : List Ob) (id : Int) (hl : l.length ≤ 1000000) (hs : RisO l) : CSat Tryz.prog 162 [.sl (l.map Ob.enc), .int .u64 id, .fn (.func 163) [] [.ptr 0 0]] (q3h (lsG l)) 1
    (fun out _ _ => out = .ret (.tup [.int .i64 (posO l id), .bool (hitO l id)])) := by
  refine q4u (by kernel_rfl) Tryz.func162 Tryz.results162 rfl (by simp [Tryz.ntmps162]) (by kernel_rfl) ?_
  repeat' (first | (show q1a ..; first | refine q0d ?_ | refine q0p rfl ?_ | refine q1c rfl rfl ?_) | (show q1f ..; first | refine q0n rfl rfl ?_ | refine q0h rfl ?_) | (show goOn ..; first | refine q0s ?_ | refine q0u ?_ | refine q0y ?_) | (show q1k ..; refine q0j ?_) | (show wGo ..; first | refine q1v ?_ | refine q2b ?_ | refine q1x ?_ | refine q1z ?_ | refine gw_u ?_ | refine q1w (fun _ => ?_) (fun _ => ?_) | refine q2a (fun _ => ?_) (fun _ => ?_) | refine q1y (fun _ => ?_) (fun _ => ?_) | refine q2c (fun _ => ?_) (fun _ => ?_)) | (show q0i ..; first | refine q0q ?_ | refine q0c ?_ | refine q0r ?_ | refine q0f ?_ | refine q0k ?_ | refine q0w ?_ | refine q0t ?_) | (show q1d ..; first | refine cd_t ?_ | refine cd_f ?_ | refine cd_n (fun _ => ?_) (fun _ => ?_) | refine cd_b (fun _ => ?_) (fun _ => ?_)) | refine q0a ?_ | refine q0m ?_ | refine q0l ?_ | refine q0v ?_ | refine q0g ?_ | refine q0x ?_ | refine bl_pass rfl ?_ | refine q1g ?_ | refine q1e ?_ | (show retQ ..; first | refine q0o ?_ | refine q0b ?_) | refine q0e ?_)
  have hLV := lsG_lv l
  refine pc_loopK (S := Nat × Nat) (lsG l) (lsG_1 l) (lsG_2 l) (lsG_3 l) (fun s => s.2 - s.1) (fun s => s.1 ≤ s.2 ∧ s.2 ≤ l.length ∧ (∀ k, k < s.1 → ∀ x, l[k]? = some x → x.id < id) ∧ (∀ k, s.2 ≤ k → ∀ x, l[k]? = some x → ¬ x.id < id)) (fun s => [(0, .sl (l.map Ob.enc)), (1, .int .u64 id), (2, .fn (.func 163) [] [.ptr 0 0]), (8, .int .i64 l.length), (9, .int .i64 s.1), (10, .int .i64 s.2)]) (0, l.length) ⟨Nat.zero_le _, Nat.le_refl _, fun k hk => absurd hk (Nat.not_lt_zero k), fun k hk x hx => absurd (q5f hx) (by simp only at hk; omega)⟩ (Nat.le_refl _) (keepK_i (fun i _ => rfl) (by (repeat' (first | exact q2d | refine q1n (by (try simp only [go_sem, *]); try rfl) (by simp only [go_sem, *]) ?_)))) ?_
  rintro ⟨i, j⟩ ⟨hij, hj, h1, h2⟩
  simp only at hij hj h1 h2
  rcases Nat.lt_or_ge i j with hlt | hge
  · obtain ⟨x, hx⟩ := q3j (by omega : (i + j) / 2 < l.length)
    have h0 := q3o hlt
    have e1 : IntKind.i64.wrap ((i : Int) + (j : Int)) = ((i + j : Nat) : Int) := by rw [IntKind.wrap_i64]; omega
    have e2 : IntKind.u64.wrap ((i + j : Nat) : Int) = ((i + j : Nat) : Int) := by rw [IntKind.wrap_u64]; omega
    have e3 : IntKind.i64.wrap (((i + j) / 2 : Nat) : Int) = (((i + j) / 2 : Nat) : Int) := by rw [IntKind.wrap_i64]; omega
    have e4 := q3d ((i + j) / 2) (by omega)
    repeat' (first | (show q1a ..; first | refine q0d ?_ | refine q0p rfl ?_ | refine q1c rfl rfl ?_) | (show q1f ..; first | refine q0n rfl rfl ?_ | refine q0h rfl ?_) | (show goOn ..; first | refine q0s ?_ | refine q0u ?_ | refine q0y ?_) | (show q1k ..; refine q0j ?_) | (show wGo ..; first | refine q1v ?_ | refine q2b ?_ | refine q1x ?_ | refine q1z ?_ | refine gw_u ?_ | refine q1w (fun _ => ?_) (fun _ => ?_) | refine q2a (fun _ => ?_) (fun _ => ?_) | refine q1y (fun _ => ?_) (fun _ => ?_) | refine q2c (fun _ => ?_) (fun _ => ?_)) | (show q0i ..; first | refine q0q ?_ | refine q0c ?_ | refine q0r ?_ | refine q0f ?_ | refine q0k ?_ | refine q0w ?_ | refine q0t ?_) | (show q1d ..; first | refine cd_t ?_ | refine cd_f ?_ | refine cd_n (fun _ => ?_) (fun _ => ?_) | refine cd_b (fun _ => ?_) (fun _ => ?_)) | refine q0a ?_ | refine q0m ?_ | refine q0l ?_ | refine q0v ?_ | refine q0g ?_ | refine q0x ?_ | refine bl_pass rfl ?_ | refine q1g ?_ | refine q1e ?_ | (show retQ ..; first | refine q0o ?_ | refine q0b ?_) | refine q0e ?_)
    (refine q2j (by kernel_rfl) (at1_ob l x id) ?_ ?_)
    case refine_2 => rintro p H' m' ⟨h, _⟩; cases h
    rintro r H' m' ⟨h, hm', hH'⟩
    cases h
    have e5 := cmpZ_lt x.id id
    repeat' (first | (show q1a ..; first | refine q0d ?_ | refine q0p rfl ?_ | refine q1c rfl rfl ?_) | (show q1f ..; first | refine q0n rfl rfl ?_ | refine q0h rfl ?_) | (show goOn ..; first | refine q0s ?_ | refine q0u ?_ | refine q0y ?_) | (show q1k ..; refine q0j ?_) | (show wGo ..; first | refine q1v ?_ | refine q2b ?_ | refine q1x ?_ | refine q1z ?_ | refine gw_u ?_ | refine q1w (fun _ => ?_) (fun _ => ?_) | refine q2a (fun _ => ?_) (fun _ => ?_) | refine q1y (fun _ => ?_) (fun _ => ?_) | refine q2c (fun _ => ?_) (fun _ => ?_)) | (show q0i ..; first | refine q0q ?_ | refine q0c ?_ | refine q0r ?_ | refine q0f ?_ | refine q0k ?_ | refine q0w ?_ | refine q0t ?_) | (show q1d ..; first | refine cd_t ?_ | refine cd_f ?_ | refine cd_n (fun _ => ?_) (fun _ => ?_) | refine cd_b (fun _ => ?_) (fun _ => ?_)) | refine q0a ?_ | refine q0m ?_ | refine q0l ?_ | refine q0v ?_ | refine q0g ?_ | refine q0x ?_ | refine bl_pass rfl ?_ | refine q1g ?_ | refine q1e ?_ | (show retQ ..; first | refine q0o ?_ | refine q0b ?_) | refine q0e ?_)
    all_goals rename_i hc
    · refine againK ((i + j) / 2 + 1, j) ⟨by simp only; omega, hj, fun k hk y hy => ?_, h2⟩ (by simp only; omega) hm' hH' (by (repeat' (first | exact q2d | refine q1n (by (try simp only [go_sem, *]); try rfl) (by simp only [go_sem, *]) ?_)))
      simp only at hk
      rcases Nat.lt_or_ge k ((i + j) / 2) with h | h
      · have := hs k _ y x hy hx h; have := of_decide_eq_true hc; omega
      · obtain rfl : k = (i + j) / 2 := by omega
        rw [hx] at hy; cases hy; exact of_decide_eq_true hc
    · refine againK (i, (i + j) / 2) ⟨by simp only; omega, by simp only; omega, h1, fun k hk y hy => ?_⟩ (by simp only; omega) hm' hH' (by (repeat' (first | exact q2d | refine q1n (by (try simp only [go_sem, *]); try rfl) (by simp only [go_sem, *]) ?_)))
      simp only at hk
      have hc' := of_decide_eq_false hc
      rcases Nat.lt_or_ge ((i + j) / 2) k with h | h
      · have := hs _ k x y hx hy h; omega
      · obtain rfl : k = (i + j) / 2 := by omega
        rw [hx] at hy; cases hy; exact hc'
  · obtain rfl : i = j := by omega
    have h0 := q2z hge
    have hp := pos_spot hj h1 (h2 i (Nat.le_refl _))
    rcases Nat.lt_or_ge i l.length with hlt | hge2
    · obtain ⟨x, hx⟩ := q3j hlt
      have h3 := q3o hlt
      have hh : hitO l id = (x.id == id) := by unfold hitO; rw [hp, hx]
      repeat' (first | (show q1a ..; first | refine q0d ?_ | refine q0p rfl ?_ | refine q1c rfl rfl ?_) | (show q1f ..; first | refine q0n rfl rfl ?_ | refine q0h rfl ?_) | (show goOn ..; first | refine q0s ?_ | refine q0u ?_ | refine q0y ?_) | (show q1k ..; refine q0j ?_) | (show wGo ..; first | refine q1v ?_ | refine q2b ?_ | refine q1x ?_ | refine q1z ?_ | refine gw_u ?_ | refine q1w (fun _ => ?_) (fun _ => ?_) | refine q2a (fun _ => ?_) (fun _ => ?_) | refine q1y (fun _ => ?_) (fun _ => ?_) | refine q2c (fun _ => ?_) (fun _ => ?_)) | (show q0i ..; first | refine q0q ?_ | refine q0c ?_ | refine q0r ?_ | refine q0f ?_ | refine q0k ?_ | refine q0w ?_ | refine q0t ?_) | (show q1d ..; first | refine cd_t ?_ | refine cd_f ?_ | refine cd_n (fun _ => ?_) (fun _ => ?_) | refine cd_b (fun _ => ?_) (fun _ => ?_)) | refine q0a ?_ | refine q0m ?_ | refine q0l ?_ | refine q0v ?_ | refine q0g ?_ | refine q0x ?_ | refine bl_pass rfl ?_ | refine q1g ?_ | refine q1e ?_ | (show retQ ..; first | refine q0o ?_ | refine q0b ?_) | refine q0e ?_)
      (refine q2j (by kernel_rfl) (at1_ob l x id) ?_ ?_)
      case refine_2 => rintro p H' m' ⟨h, _⟩; cases h
      rintro r H' m' ⟨h, hm', hH'⟩
      cases h
      have e5 := cmpZ_eq x.id id
      repeat' (first | (show q1a ..; first | refine q0d ?_ | refine q0p rfl ?_ | refine q1c rfl rfl ?_) | (show q1f ..; first | refine q0n rfl rfl ?_ | refine q0h rfl ?_) | (show goOn ..; first | refine q0s ?_ | refine q0u ?_ | refine q0y ?_) | (show q1k ..; refine q0j ?_) | (show wGo ..; first | refine q1v ?_ | refine q2b ?_ | refine q1x ?_ | refine q1z ?_ | refine gw_u ?_ | refine q1w (fun _ => ?_) (fun _ => ?_) | refine q2a (fun _ => ?_) (fun _ => ?_) | refine q1y (fun _ => ?_) (fun _ => ?_) | refine q2c (fun _ => ?_) (fun _ => ?_)) | (show q0i ..; first | refine q0q ?_ | refine q0c ?_ | refine q0r ?_ | refine q0f ?_ | refine q0k ?_ | refine q0w ?_ | refine q0t ?_) | (show q1d ..; first | refine cd_t ?_ | refine cd_f ?_ | refine cd_n (fun _ => ?_) (fun _ => ?_) | refine cd_b (fun _ => ?_) (fun _ => ?_)) | refine q0a ?_ | refine q0m ?_ | refine q0l ?_ | refine q0v ?_ | refine q0g ?_ | refine q0x ?_ | refine bl_pass rfl ?_ | refine q1g ?_ | refine q1e ?_ | (show retQ ..; first | refine q0o ?_ | refine q0b ?_) | refine q0e ?_)
      all_goals (rw [hp, hh])
    · have h3 := q2z hge2
      have hh : hitO l id = false := by unfold hitO; rw [hp, List.getElem?_eq_none hge2]
      repeat' (first | (show q1a ..; first | refine q0d ?_ | refine q0p rfl ?_ | refine q1c rfl rfl ?_) | (show q1f ..; first | refine q0n rfl rfl ?_ | refine q0h rfl ?_) | (show goOn ..; first | refine q0s ?_ | refine q0u ?_ | refine q0y ?_) | (show q1k ..; refine q0j ?_) | (show wGo ..; first | refine q1v ?_ | refine q2b ?_ | refine q1x ?_ | refine q1z ?_ | refine gw_u ?_ | refine q1w (fun _ => ?_) (fun _ => ?_) | refine q2a (fun _ => ?_) (fun _ => ?_) | refine q1y (fun _ => ?_) (fun _ => ?_) | refine q2c (fun _ => ?_) (fun _ => ?_)) | (show q0i ..; first | refine q0q ?_ | refine q0c ?_ | refine q0r ?_ | refine q0f ?_ | refine q0k ?_ | refine q0w ?_ | refine q0t ?_) | (show q1d ..; first | refine cd_t ?_ | refine cd_f ?_ | refine cd_n (fun _ => ?_) (fun _ => ?_) | refine cd_b (fun _ => ?_) (fun _ => ?_)) | refine q0a ?_ | refine q0m ?_ | refine q0l ?_ | refine q0v ?_ | refine q0g ?_ | refine q0x ?_ | refine bl_pass rfl ?_ | refine q1g ?_ | refine q1e ?_ | (show retQ ..; first | refine q0o ?_ | refine q0b ?_) | refine q0e ?_)
      all_goals (rw [hp, hh])
end Go.Proofs.YteibeoipnjhicaaGreat
