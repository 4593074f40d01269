import Derived.Test.YtklpedooijlnlaaEbz
import Derived.Test.YtklpedooijlnlaaEa8
import Derived.Test.YtklpedooijlnlaaCsl
import Derived.Test.YtklpedooijlnlaaSrOb
section
namespace Go.Proofs.Ytklpedooijlnlaa
open Go Go.RowKit
set_option linter.unusedVariables false
set_option linter.unusedSimpArgs false
set_option maxHeartbeats 16000000
set_option maxRecDepth 100000
@[go_sem high] theorem half_ev (t : TypeId) (n : Nat) : evBin Try.prog .shr t (.int .u64 (n : Int)) (.int .u64 1) = some (.int .u64 ((n / 2 : Nat) : Int)) := by
  have : (n : Int).fdiv (2 ^ min (1 : Int).toNat IntKind.u64.bits) = ((n / 2 : Nat) : Int) := by
    rw [show (2 : Int) ^ min (1 : Int).toNat IntKind.u64.bits = 2 by decide, Int.fdiv_eq_ediv_of_nonneg _ (by decide)]; omega
  show eShift .shr .u64 n 1 = _
  unfold eShift
  rw [if_neg (by decide), this]
def LsO (l : List Ob) : Ls := ⟨l, .fn (.func 100) [] []⟩
@[go_sem] theorem lsO_things (l : List Ob) : (LsO l).things = l := rfl
@[go_sem] theorem lsO_idf (l : List Ob) : (LsO l).idf = .fn (.func 100) [] [] := rfl
def lsG (l : List Ob) : List (Nat × HE) := [(0, .box (Ls.enc (LsO l)))]
theorem lsG_bd (S : Nat → Prop) (l : List Ob) : BdL S (Ls.enc (LsO l)) := by
  show BdL S ([.sl (List.map Ob.enc l)] ++ [.fn (.func 100) [] []])
  simp only [go_sem]
theorem lsG_1 (l : List Ob) : ∀ i, 1 ≤ i → heapL (lsG l) i = none := fun i hi => by unfold lsG; rw [heapL_cons, if_neg (by omega)]; rfl
theorem lsG_2 (l : List Ob) : ∀ i k, heapL (lsG l) i = some (.box k) → ∀ p ∈ k, Bd (LV (heapL (lsG l))) p := fun i k h => by
  unfold lsG at h
  rw [heapL_cons] at h
  split at h
  · cases h; exact lsG_bd _ l
  · cases h
theorem lsG_3 (l : List Ob) : ∀ i e sz els, heapL (lsG l) i ≠ some (.row e sz els) := fun i e sz els h => by
  unfold lsG at h
  rw [heapL_cons] at h
  split at h <;> cases h
theorem lsG_lv (l : List Ob) : LV (heapL (lsG l)) 0 := by unfold lsG; simp only [go_sem]
theorem keepK_i {m0 : Nat} {G : List (Nat × HE)} {env : Env} {H : Heap} {E : List (Nat × PV)} (h1 : ∀ i, i < m0 → H i = heapL G i) (h2 : KE (LV (heapL G)) env E) : KeepK m0 G env H E := ⟨h1, h2⟩
attribute [local irreducible] pwOps dr pwCode Ex.then Ex.inBlock retQ okAll drawOk Pure CSat evOp calleeP rdOf upd hset strip sp0 cut envL heapL Again Keep BdL evBs AgainK KeepK
/-! A rising list of objects: the place of an id. -/
def cmpZ (x y : Int) : Int := if decide (x < y) = true then -1 else if decide (x > y) = true then 1 else 0
theorem cmp_nan (x : Int) : Pure Try.prog 156 [.int .u64 x] (.bool false) := by
  refine pureI (by kernel_rfl) (by simp only [go_sem, *]) (by simp only [go_sem, *]) Try.func156 Try.results156 rfl (by simp [Try.ntmps156]) (by kernel_rfl) ?_
  repeat' (first
    | (show pwOps ..; first | refine pops_nil ?_ | refine pops_n rfl ?_ | refine pops_w' rfl rfl ?_)
    | (show runGo ..; first | refine run_ev rfl rfl ?_ | refine run_call rfl ?_)
    | (show goOn ..; first | refine on_nop ?_ | refine on_new ?_ | refine on_put ?_ | refine on_born ?_ | refine on_grow ?_)
    | (show putGo ..; refine put_box ?_)
    | (show wGo ..; first | refine gw_tt ?_ | refine gw_ff ?_ | refine gw_tf ?_ | refine gw_ft ?_ | refine gw_u ?_ | refine gw_tn (fun _ => ?_) (fun _ => ?_) | refine gw_fn (fun _ => ?_) (fun _ => ?_) | refine gw_tb (fun _ => ?_) (fun _ => ?_) | refine gw_fb (fun _ => ?_) (fun _ => ?_))
    | (show dr ..; first | refine dr_nil ?_ | refine dr_n rfl ?_ | refine dr_w' rfl rfl ?_)
    | (show drGo ..; first | refine dr_ev rfl ?_ | refine dr_call rfl ?_)
    | (show drOn ..; first | refine dn_nop ?_ | refine dn_new ?_ | refine dn_put ?_ | refine dn_born ?_ | refine dn_grow ?_)
    | (show dputGo ..; refine dput_box ?_)
    | (refine And.intro (by kernel_rfl : okAll _ = true) ?_)
    | (show pwCode ..; first | refine pc_seq ?_ | refine pc_region ?_ | refine pc_draw (by kernel_rfl) ?_ | refine pc_ret ?_ | refine pc_skip ?_ | refine pc_block ?_ | refine pc_exit ?_ | refine pc_cond ?_)
    | (show condGo ..; first | refine cd_t ?_ | refine cd_f ?_ | refine cd_n (fun _ => ?_) (fun _ => ?_) | refine cd_b (fun _ => ?_) (fun _ => ?_))
    | refine th_normal ?_
    | refine th_ret ?_
    | refine th_exit ?_
    | refine th_pan ?_
    | refine bl_normal ?_
    | refine bl_exit ?_
    | refine bl_pass rfl ?_
    | refine bl_ret ?_
    | refine bl_pan ?_
    | (show retQ ..; first | refine rt_ret ?_ | refine rt_normal ?_)
    | refine rs_some ?_)
  all_goals rfl
theorem cmp_u (x y : Int) : Pure Try.prog 144 [.int .u64 x, .int .u64 y] (.int .i64 (cmpZ x y)) := by
  refine pureI (by kernel_rfl) (by simp only [go_sem, *]) (by simp only [go_sem, *]) Try.func144 Try.results144 rfl (by simp [Try.ntmps144]) (by kernel_rfl) ?_
  repeat' (first
    | (show pwOps ..; first | refine pops_nil ?_ | refine pops_n rfl ?_ | refine pops_w' rfl rfl ?_)
    | (show runGo ..; first | refine run_ev rfl rfl ?_ | refine run_call rfl ?_)
    | (show goOn ..; first | refine on_nop ?_ | refine on_new ?_ | refine on_put ?_ | refine on_born ?_ | refine on_grow ?_)
    | (show putGo ..; refine put_box ?_)
    | (show callGo ..; (refine call_pure (r := ?_) ?_ ?_; rotate_left 1; (focus first | exact cmp_nan _)))
    | (show wGo ..; first | refine gw_tt ?_ | refine gw_ff ?_ | refine gw_tf ?_ | refine gw_ft ?_ | refine gw_u ?_ | refine gw_tn (fun _ => ?_) (fun _ => ?_) | refine gw_fn (fun _ => ?_) (fun _ => ?_) | refine gw_tb (fun _ => ?_) (fun _ => ?_) | refine gw_fb (fun _ => ?_) (fun _ => ?_))
    | (show dr ..; first | refine dr_nil ?_ | refine dr_n rfl ?_ | refine dr_w' rfl rfl ?_)
    | (show drGo ..; first | refine dr_ev rfl ?_ | refine dr_call rfl ?_)
    | (show drOn ..; first | refine dn_nop ?_ | refine dn_new ?_ | refine dn_put ?_ | refine dn_born ?_ | refine dn_grow ?_)
    | (show dputGo ..; refine dput_box ?_)
    | (show dcallGo ..; (refine dcall_pure (r := ?_) ?_ ?_; rotate_left 1; (focus first | exact cmp_nan _)))
    | (refine And.intro (by kernel_rfl : okAll _ = true) ?_)
    | (show pwCode ..; first | refine pc_seq ?_ | refine pc_region ?_ | refine pc_draw (by kernel_rfl) ?_ | refine pc_ret ?_ | refine pc_skip ?_ | refine pc_block ?_ | refine pc_exit ?_ | refine pc_cond ?_)
    | (show condGo ..; first | refine cd_t ?_ | refine cd_f ?_ | refine cd_n (fun _ => ?_) (fun _ => ?_) | refine cd_b (fun _ => ?_) (fun _ => ?_))
    | refine th_normal ?_
    | refine th_ret ?_
    | refine th_exit ?_
    | refine th_pan ?_
    | refine bl_normal ?_
    | refine bl_exit ?_
    | refine bl_pass rfl ?_
    | refine bl_ret ?_
    | refine bl_pan ?_
    | (show retQ ..; first | refine rt_ret ?_ | refine rt_normal ?_)
    | refine rs_some ?_)
  all_goals (unfold cmpZ; simp only [*, if_true, if_false, Bool.false_eq_true]; try rfl)
theorem at1_ob (l : List Ob) (x : Ob) (id : Int) : CSat Try.prog 143 [.agg (Ob.enc x), .int .u64 id, .ptr 0 0] (heapL (lsG l)) 1 (fun out H' m' => out = .ret (.int .i64 (cmpZ x.id id)) ∧ 1 ≤ m' ∧ ∀ i, i < 1 → H' i = heapL (lsG l) i) := by
  refine csatI (by kernel_rfl) Try.func143 Try.results143 rfl (by simp [Try.ntmps143]) (by kernel_rfl) ?_
  unfold lsG
  repeat' (first
    | (show pwOps ..; first | refine pops_nil ?_ | refine pops_n rfl ?_ | refine pops_w' rfl rfl ?_)
    | (show runGo ..; first | refine run_ev rfl rfl ?_ | refine run_call rfl ?_)
    | (show goOn ..; first | refine on_nop ?_ | refine on_new ?_ | refine on_put ?_ | refine on_born ?_ | refine on_grow ?_)
    | (show putGo ..; refine put_box ?_)
    | (show callGo ..; (refine call_pure (r := ?_) ?_ ?_; rotate_left 1; (focus first | exact obj_idOf _ | exact cmp_u _ _)))
    | (show wGo ..; first | refine gw_tt ?_ | refine gw_ff ?_ | refine gw_tf ?_ | refine gw_ft ?_ | refine gw_u ?_ | refine gw_tn (fun _ => ?_) (fun _ => ?_) | refine gw_fn (fun _ => ?_) (fun _ => ?_) | refine gw_tb (fun _ => ?_) (fun _ => ?_) | refine gw_fb (fun _ => ?_) (fun _ => ?_))
    | (show dr ..; first | refine dr_nil ?_ | refine dr_n rfl ?_ | refine dr_w' rfl rfl ?_)
    | (show drGo ..; first | refine dr_ev rfl ?_ | refine dr_call rfl ?_)
    | (show drOn ..; first | refine dn_nop ?_ | refine dn_new ?_ | refine dn_put ?_ | refine dn_born ?_ | refine dn_grow ?_)
    | (show dputGo ..; refine dput_box ?_)
    | (show dcallGo ..; (refine dcall_pure (r := ?_) ?_ ?_; rotate_left 1; (focus first | exact obj_idOf _ | exact cmp_u _ _)))
    | (refine And.intro (by kernel_rfl : okAll _ = true) ?_)
    | (show pwCode ..; first | refine pc_seq ?_ | refine pc_region ?_ | refine pc_draw (by kernel_rfl) ?_ | refine pc_ret ?_ | refine pc_skip ?_ | refine pc_block ?_ | refine pc_exit ?_ | refine pc_cond ?_)
    | (show condGo ..; first | refine cd_t ?_ | refine cd_f ?_ | refine cd_n (fun _ => ?_) (fun _ => ?_) | refine cd_b (fun _ => ?_) (fun _ => ?_))
    | refine th_normal ?_
    | refine th_ret ?_
    | refine th_exit ?_
    | refine th_pan ?_
    | refine bl_normal ?_
    | refine bl_exit ?_
    | refine bl_pass rfl ?_
    | refine bl_ret ?_
    | refine bl_pan ?_
    | (show retQ ..; first | refine rt_ret ?_ | refine rt_normal ?_)
    | refine rs_some ?_)
  refine ⟨rfl, by omega, fun i hi => ?_⟩
  obtain rfl : i = 0 := by omega
  exact hset_ne _ _ (by decide)
def RisO (l : List Ob) : Prop := ∀ (i j : Nat) (x y : Ob), l[i]? = some x → l[j]? = some y → i < j → x.id < y.id
def posO (l : List Ob) (id : Int) : Nat := (l.takeWhile (fun x => decide (x.id < id))).length
def hitO (l : List Ob) (id : Int) : Bool := match l[posO l id]? with
  | some x => x.id == id
  | none => false
theorem pos_le (l : List Ob) (id : Int) : posO l id ≤ l.length := by
  unfold posO; exact List.Sublist.length_le (List.takeWhile_sublist _)
theorem pos_spot {l : List Ob} {id : Int} {n : Nat} (hn : n ≤ l.length) (h1 : ∀ k, k < n → ∀ x, l[k]? = some x → x.id < id) (h2 : ∀ x, l[n]? = some x → ¬ x.id < id) : posO l id = n := by
  unfold posO
  induction l generalizing n with
  | nil => simp at hn; subst hn; rfl
  | cons a l ih =>
    cases n with
    | zero =>
      have := h2 a rfl
      rw [List.takeWhile_cons, if_neg (by simpa using this)]; rfl
    | succ n =>
      have := h1 0 (by omega) a rfl
      rw [List.takeWhile_cons, if_pos (by simpa using this), List.length_cons, ih (by simpa using hn) (fun k hk x hx => h1 (k + 1) (by omega) x (by simpa using hx)) (fun x hx => h2 x (by simpa using hx))]
theorem cmpZ_lt (x y : Int) : decide (cmpZ x y < 0) = decide (x < y) := by
  unfold cmpZ
  by_cases h : x < y
  · rw [if_pos (decide_eq_true h), decide_eq_true h]; rfl
  · rw [if_neg (by simpa using h), decide_eq_false h]; split <;> rfl
theorem cmpZ_eq (x y : Int) : (cmpZ x y == 0) = (x == y) := by
  unfold cmpZ
  by_cases h : x < y
  · rw [if_pos (decide_eq_true h)]; have : (x == y) = false := by simpa using (by omega : x ≠ y)
    rw [this]; rfl
  · rw [if_neg (by simpa using h)]
    by_cases h2 : x > y
    · rw [if_pos (decide_eq_true h2)]; have : (x == y) = false := by simpa using (by omega : x ≠ y)
      rw [this]; rfl
    · rw [if_neg (by simpa using h2)]; have : (x == y) = true := by simpa using (by omega : x = y)
      rw [this]; rfl
def atF : PV := .fn (.func 143) [] [.ptr 0 0]
theorem search_ob (l : List Ob) (id : Int) (hl : l.length ≤ 1000000) (hs : RisO l) : CSat Try.prog 142 [.sl (l.map Ob.enc), .int .u64 id, .fn (.func 143) [] [.ptr 0 0]] (heapL (lsG l)) 1
    (fun out _ _ => out = .ret (.tup [.int .i64 (posO l id), .bool (hitO l id)])) := by
  refine csatI (by kernel_rfl) Try.func142 Try.results142 rfl (by simp [Try.ntmps142]) (by kernel_rfl) ?_
  repeat' (first
    | (show pwOps ..; first | refine pops_nil ?_ | refine pops_n rfl ?_ | refine pops_w' rfl rfl ?_)
    | (show runGo ..; first | refine run_ev rfl rfl ?_ | refine run_call rfl ?_)
    | (show goOn ..; first | refine on_nop ?_ | refine on_new ?_ | refine on_put ?_ | refine on_born ?_ | refine on_grow ?_)
    | (show putGo ..; refine put_box ?_)
    | (show wGo ..; first | refine gw_tt ?_ | refine gw_ff ?_ | refine gw_tf ?_ | refine gw_ft ?_ | refine gw_u ?_ | refine gw_tn (fun _ => ?_) (fun _ => ?_) | refine gw_fn (fun _ => ?_) (fun _ => ?_) | refine gw_tb (fun _ => ?_) (fun _ => ?_) | refine gw_fb (fun _ => ?_) (fun _ => ?_))
    | (show dr ..; first | refine dr_nil ?_ | refine dr_n rfl ?_ | refine dr_w' rfl rfl ?_)
    | (show drGo ..; first | refine dr_ev rfl ?_ | refine dr_call rfl ?_)
    | (show drOn ..; first | refine dn_nop ?_ | refine dn_new ?_ | refine dn_put ?_ | refine dn_born ?_ | refine dn_grow ?_)
    | (show dputGo ..; refine dput_box ?_)
    | (refine And.intro (by kernel_rfl : okAll _ = true) ?_)
    | (show pwCode ..; first | refine pc_seq ?_ | refine pc_region ?_ | refine pc_draw (by kernel_rfl) ?_ | refine pc_ret ?_ | refine pc_skip ?_ | refine pc_block ?_ | refine pc_exit ?_ | refine pc_cond ?_)
    | (show condGo ..; first | refine cd_t ?_ | refine cd_f ?_ | refine cd_n (fun _ => ?_) (fun _ => ?_) | refine cd_b (fun _ => ?_) (fun _ => ?_))
    | refine th_normal ?_
    | refine th_ret ?_
    | refine th_exit ?_
    | refine th_pan ?_
    | refine bl_normal ?_
    | refine bl_exit ?_
    | refine bl_pass rfl ?_
    | refine bl_ret ?_
    | refine bl_pan ?_
    | (show retQ ..; first | refine rt_ret ?_ | refine rt_normal ?_)
    | refine rs_some ?_)
  have hLV := lsG_lv l
  refine pc_loopK (S := Nat × Nat) (lsG l) (lsG_1 l) (lsG_2 l) (lsG_3 l) (fun s => s.2 - s.1) (fun s => s.1 ≤ s.2 ∧ s.2 ≤ l.length ∧ (∀ k, k < s.1 → ∀ x, l[k]? = some x → x.id < id) ∧ (∀ k, s.2 ≤ k → ∀ x, l[k]? = some x → ¬ x.id < id)) (fun s => [(0, .sl (l.map Ob.enc)), (1, .int .u64 id), (2, .fn (.func 143) [] [.ptr 0 0]), (8, .int .i64 l.length), (9, .int .i64 s.1), (10, .int .i64 s.2)]) (0, l.length) ⟨Nat.zero_le _, Nat.le_refl _, fun k hk => absurd hk (Nat.not_lt_zero k), fun k hk x hx => absurd (len_lt hx) (by simp only at hk; omega)⟩ (Nat.le_refl _) (keepK_i (fun i _ => rfl) (by (repeat' (first | exact ke_nil | refine ke_cons (by (try simp only [go_sem, *]); try rfl) (by simp only [go_sem, *]) ?_)))) ?_
  rintro ⟨i, j⟩ ⟨hij, hj, h1, h2⟩
  simp only at hij hj h1 h2
  rcases Nat.lt_or_ge i j with hlt | hge
  · obtain ⟨x, hx⟩ := lt_len (by omega : (i + j) / 2 < l.length)
    have h0 := lt_true hlt
    have e1 : IntKind.i64.wrap ((i : Int) + (j : Int)) = ((i + j : Nat) : Int) := by rw [IntKind.wrap_i64]; omega
    have e2 : IntKind.u64.wrap ((i + j : Nat) : Int) = ((i + j : Nat) : Int) := by rw [IntKind.wrap_u64]; omega
    have e3 : IntKind.i64.wrap (((i + j) / 2 : Nat) : Int) = (((i + j) / 2 : Nat) : Int) := by rw [IntKind.wrap_i64]; omega
    have e4 := wrap_nat ((i + j) / 2) (by omega)
    repeat' (first
    | (show pwOps ..; first | refine pops_nil ?_ | refine pops_n rfl ?_ | refine pops_w' rfl rfl ?_)
    | (show runGo ..; first | refine run_ev rfl rfl ?_ | refine run_call rfl ?_)
    | (show goOn ..; first | refine on_nop ?_ | refine on_new ?_ | refine on_put ?_ | refine on_born ?_ | refine on_grow ?_)
    | (show putGo ..; refine put_box ?_)
    | (show wGo ..; first | refine gw_tt ?_ | refine gw_ff ?_ | refine gw_tf ?_ | refine gw_ft ?_ | refine gw_u ?_ | refine gw_tn (fun _ => ?_) (fun _ => ?_) | refine gw_fn (fun _ => ?_) (fun _ => ?_) | refine gw_tb (fun _ => ?_) (fun _ => ?_) | refine gw_fb (fun _ => ?_) (fun _ => ?_))
    | (show dr ..; first | refine dr_nil ?_ | refine dr_n rfl ?_ | refine dr_w' rfl rfl ?_)
    | (show drGo ..; first | refine dr_ev rfl ?_ | refine dr_call rfl ?_)
    | (show drOn ..; first | refine dn_nop ?_ | refine dn_new ?_ | refine dn_put ?_ | refine dn_born ?_ | refine dn_grow ?_)
    | (show dputGo ..; refine dput_box ?_)
    | (refine And.intro (by kernel_rfl : okAll _ = true) ?_)
    | (show pwCode ..; first | refine pc_seq ?_ | refine pc_region ?_ | refine pc_draw (by kernel_rfl) ?_ | refine pc_ret ?_ | refine pc_skip ?_ | refine pc_block ?_ | refine pc_exit ?_ | refine pc_cond ?_)
    | (show condGo ..; first | refine cd_t ?_ | refine cd_f ?_ | refine cd_n (fun _ => ?_) (fun _ => ?_) | refine cd_b (fun _ => ?_) (fun _ => ?_))
    | refine th_normal ?_
    | refine th_ret ?_
    | refine th_exit ?_
    | refine th_pan ?_
    | refine bl_normal ?_
    | refine bl_exit ?_
    | refine bl_pass rfl ?_
    | refine bl_ret ?_
    | refine bl_pan ?_
    | (show retQ ..; first | refine rt_ret ?_ | refine rt_normal ?_)
    | refine rs_some ?_)
    (refine call_csat (by kernel_rfl) (at1_ob l x id) ?_ ?_)
    case refine_2 => rintro p H' m' ⟨h, _⟩; cases h
    rintro r H' m' ⟨h, hm', hH'⟩
    cases h
    have e5 := cmpZ_lt x.id id
    repeat' (first
    | (show pwOps ..; first | refine pops_nil ?_ | refine pops_n rfl ?_ | refine pops_w' rfl rfl ?_)
    | (show runGo ..; first | refine run_ev rfl rfl ?_ | refine run_call rfl ?_)
    | (show goOn ..; first | refine on_nop ?_ | refine on_new ?_ | refine on_put ?_ | refine on_born ?_ | refine on_grow ?_)
    | (show putGo ..; refine put_box ?_)
    | (show wGo ..; first | refine gw_tt ?_ | refine gw_ff ?_ | refine gw_tf ?_ | refine gw_ft ?_ | refine gw_u ?_ | refine gw_tn (fun _ => ?_) (fun _ => ?_) | refine gw_fn (fun _ => ?_) (fun _ => ?_) | refine gw_tb (fun _ => ?_) (fun _ => ?_) | refine gw_fb (fun _ => ?_) (fun _ => ?_))
    | (show dr ..; first | refine dr_nil ?_ | refine dr_n rfl ?_ | refine dr_w' rfl rfl ?_)
    | (show drGo ..; first | refine dr_ev rfl ?_ | refine dr_call rfl ?_)
    | (show drOn ..; first | refine dn_nop ?_ | refine dn_new ?_ | refine dn_put ?_ | refine dn_born ?_ | refine dn_grow ?_)
    | (show dputGo ..; refine dput_box ?_)
    | (refine And.intro (by kernel_rfl : okAll _ = true) ?_)
    | (show pwCode ..; first | refine pc_seq ?_ | refine pc_region ?_ | refine pc_draw (by kernel_rfl) ?_ | refine pc_ret ?_ | refine pc_skip ?_ | refine pc_block ?_ | refine pc_exit ?_ | refine pc_cond ?_)
    | (show condGo ..; first | refine cd_t ?_ | refine cd_f ?_ | refine cd_n (fun _ => ?_) (fun _ => ?_) | refine cd_b (fun _ => ?_) (fun _ => ?_))
    | refine th_normal ?_
    | refine th_ret ?_
    | refine th_exit ?_
    | refine th_pan ?_
    | refine bl_normal ?_
    | refine bl_exit ?_
    | refine bl_pass rfl ?_
    | refine bl_ret ?_
    | refine bl_pan ?_
    | (show retQ ..; first | refine rt_ret ?_ | refine rt_normal ?_)
    | refine rs_some ?_)
    all_goals rename_i hc
    · refine againK ((i + j) / 2 + 1, j) ⟨by simp only; omega, hj, fun k hk y hy => ?_, h2⟩ (by simp only; omega) hm' hH' (by (repeat' (first | exact ke_nil | refine ke_cons (by (try simp only [go_sem, *]); try rfl) (by simp only [go_sem, *]) ?_)))
      simp only at hk
      rcases Nat.lt_or_ge k ((i + j) / 2) with h | h
      · have := hs k _ y x hy hx h; have := of_decide_eq_true hc; omega
      · obtain rfl : k = (i + j) / 2 := by omega
        rw [hx] at hy; cases hy; exact of_decide_eq_true hc
    · refine againK (i, (i + j) / 2) ⟨by simp only; omega, by simp only; omega, h1, fun k hk y hy => ?_⟩ (by simp only; omega) hm' hH' (by (repeat' (first | exact ke_nil | refine ke_cons (by (try simp only [go_sem, *]); try rfl) (by simp only [go_sem, *]) ?_)))
      simp only at hk
      have hc' := of_decide_eq_false hc
      rcases Nat.lt_or_ge ((i + j) / 2) k with h | h
      · have := hs _ k x y hx hy h; omega
      · obtain rfl : k = (i + j) / 2 := by omega
        rw [hx] at hy; cases hy; exact hc'
  · obtain rfl : i = j := by omega
    have h0 := lt_false hge
    have hp := pos_spot hj h1 (h2 i (Nat.le_refl _))
    rcases Nat.lt_or_ge i l.length with hlt | hge2
    · obtain ⟨x, hx⟩ := lt_len hlt
      have h3 := lt_true hlt
      have hh : hitO l id = (x.id == id) := by unfold hitO; rw [hp, hx]
      repeat' (first
    | (show pwOps ..; first | refine pops_nil ?_ | refine pops_n rfl ?_ | refine pops_w' rfl rfl ?_)
    | (show runGo ..; first | refine run_ev rfl rfl ?_ | refine run_call rfl ?_)
    | (show goOn ..; first | refine on_nop ?_ | refine on_new ?_ | refine on_put ?_ | refine on_born ?_ | refine on_grow ?_)
    | (show putGo ..; refine put_box ?_)
    | (show wGo ..; first | refine gw_tt ?_ | refine gw_ff ?_ | refine gw_tf ?_ | refine gw_ft ?_ | refine gw_u ?_ | refine gw_tn (fun _ => ?_) (fun _ => ?_) | refine gw_fn (fun _ => ?_) (fun _ => ?_) | refine gw_tb (fun _ => ?_) (fun _ => ?_) | refine gw_fb (fun _ => ?_) (fun _ => ?_))
    | (show dr ..; first | refine dr_nil ?_ | refine dr_n rfl ?_ | refine dr_w' rfl rfl ?_)
    | (show drGo ..; first | refine dr_ev rfl ?_ | refine dr_call rfl ?_)
    | (show drOn ..; first | refine dn_nop ?_ | refine dn_new ?_ | refine dn_put ?_ | refine dn_born ?_ | refine dn_grow ?_)
    | (show dputGo ..; refine dput_box ?_)
    | (refine And.intro (by kernel_rfl : okAll _ = true) ?_)
    | (show pwCode ..; first | refine pc_seq ?_ | refine pc_region ?_ | refine pc_draw (by kernel_rfl) ?_ | refine pc_ret ?_ | refine pc_skip ?_ | refine pc_block ?_ | refine pc_exit ?_ | refine pc_cond ?_)
    | (show condGo ..; first | refine cd_t ?_ | refine cd_f ?_ | refine cd_n (fun _ => ?_) (fun _ => ?_) | refine cd_b (fun _ => ?_) (fun _ => ?_))
    | refine th_normal ?_
    | refine th_ret ?_
    | refine th_exit ?_
    | refine th_pan ?_
    | refine bl_normal ?_
    | refine bl_exit ?_
    | refine bl_pass rfl ?_
    | refine bl_ret ?_
    | refine bl_pan ?_
    | (show retQ ..; first | refine rt_ret ?_ | refine rt_normal ?_)
    | refine rs_some ?_)
      (refine call_csat (by kernel_rfl) (at1_ob l x id) ?_ ?_)
      case refine_2 => rintro p H' m' ⟨h, _⟩; cases h
      rintro r H' m' ⟨h, hm', hH'⟩
      cases h
      have e5 := cmpZ_eq x.id id
      repeat' (first
    | (show pwOps ..; first | refine pops_nil ?_ | refine pops_n rfl ?_ | refine pops_w' rfl rfl ?_)
    | (show runGo ..; first | refine run_ev rfl rfl ?_ | refine run_call rfl ?_)
    | (show goOn ..; first | refine on_nop ?_ | refine on_new ?_ | refine on_put ?_ | refine on_born ?_ | refine on_grow ?_)
    | (show putGo ..; refine put_box ?_)
    | (show wGo ..; first | refine gw_tt ?_ | refine gw_ff ?_ | refine gw_tf ?_ | refine gw_ft ?_ | refine gw_u ?_ | refine gw_tn (fun _ => ?_) (fun _ => ?_) | refine gw_fn (fun _ => ?_) (fun _ => ?_) | refine gw_tb (fun _ => ?_) (fun _ => ?_) | refine gw_fb (fun _ => ?_) (fun _ => ?_))
    | (show dr ..; first | refine dr_nil ?_ | refine dr_n rfl ?_ | refine dr_w' rfl rfl ?_)
    | (show drGo ..; first | refine dr_ev rfl ?_ | refine dr_call rfl ?_)
    | (show drOn ..; first | refine dn_nop ?_ | refine dn_new ?_ | refine dn_put ?_ | refine dn_born ?_ | refine dn_grow ?_)
    | (show dputGo ..; refine dput_box ?_)
    | (refine And.intro (by kernel_rfl : okAll _ = true) ?_)
    | (show pwCode ..; first | refine pc_seq ?_ | refine pc_region ?_ | refine pc_draw (by kernel_rfl) ?_ | refine pc_ret ?_ | refine pc_skip ?_ | refine pc_block ?_ | refine pc_exit ?_ | refine pc_cond ?_)
    | (show condGo ..; first | refine cd_t ?_ | refine cd_f ?_ | refine cd_n (fun _ => ?_) (fun _ => ?_) | refine cd_b (fun _ => ?_) (fun _ => ?_))
    | refine th_normal ?_
    | refine th_ret ?_
    | refine th_exit ?_
    | refine th_pan ?_
    | refine bl_normal ?_
    | refine bl_exit ?_
    | refine bl_pass rfl ?_
    | refine bl_ret ?_
    | refine bl_pan ?_
    | (show retQ ..; first | refine rt_ret ?_ | refine rt_normal ?_)
    | refine rs_some ?_)
      all_goals (rw [hp, hh])
    · have h3 := lt_false hge2
      have hh : hitO l id = false := by unfold hitO; rw [hp, List.getElem?_eq_none hge2]
      repeat' (first
    | (show pwOps ..; first | refine pops_nil ?_ | refine pops_n rfl ?_ | refine pops_w' rfl rfl ?_)
    | (show runGo ..; first | refine run_ev rfl rfl ?_ | refine run_call rfl ?_)
    | (show goOn ..; first | refine on_nop ?_ | refine on_new ?_ | refine on_put ?_ | refine on_born ?_ | refine on_grow ?_)
    | (show putGo ..; refine put_box ?_)
    | (show wGo ..; first | refine gw_tt ?_ | refine gw_ff ?_ | refine gw_tf ?_ | refine gw_ft ?_ | refine gw_u ?_ | refine gw_tn (fun _ => ?_) (fun _ => ?_) | refine gw_fn (fun _ => ?_) (fun _ => ?_) | refine gw_tb (fun _ => ?_) (fun _ => ?_) | refine gw_fb (fun _ => ?_) (fun _ => ?_))
    | (show dr ..; first | refine dr_nil ?_ | refine dr_n rfl ?_ | refine dr_w' rfl rfl ?_)
    | (show drGo ..; first | refine dr_ev rfl ?_ | refine dr_call rfl ?_)
    | (show drOn ..; first | refine dn_nop ?_ | refine dn_new ?_ | refine dn_put ?_ | refine dn_born ?_ | refine dn_grow ?_)
    | (show dputGo ..; refine dput_box ?_)
    | (refine And.intro (by kernel_rfl : okAll _ = true) ?_)
    | (show pwCode ..; first | refine pc_seq ?_ | refine pc_region ?_ | refine pc_draw (by kernel_rfl) ?_ | refine pc_ret ?_ | refine pc_skip ?_ | refine pc_block ?_ | refine pc_exit ?_ | refine pc_cond ?_)
    | (show condGo ..; first | refine cd_t ?_ | refine cd_f ?_ | refine cd_n (fun _ => ?_) (fun _ => ?_) | refine cd_b (fun _ => ?_) (fun _ => ?_))
    | refine th_normal ?_
    | refine th_ret ?_
    | refine th_exit ?_
    | refine th_pan ?_
    | refine bl_normal ?_
    | refine bl_exit ?_
    | refine bl_pass rfl ?_
    | refine bl_ret ?_
    | refine bl_pan ?_
    | (show retQ ..; first | refine rt_ret ?_ | refine rt_normal ?_)
    | refine rs_some ?_)
      all_goals (rw [hp, hh])
end Go.Proofs.Ytklpedooijlnlaa
end

section
namespace Go.Proofs.Ytklpedooijlnlaa
open Go Go.RowKit
set_option linter.unusedVariables false
set_option linter.unusedSimpArgs false
set_option maxHeartbeats 16000000
set_option maxRecDepth 100000
attribute [go_sem] hset_same
attribute [local irreducible] pwOps dr pwCode Ex.then Ex.inBlock retQ okAll drawOk Pure CSat evOp calleeP rdOf upd hset strip sp0 cut envL heapL Again Keep BdL evBs AgainK KeepK
/-! A rising list of objects: with one, without one; the world's objects. -/
@[go_sem] theorem lsO_bd (S : Nat → Prop) (l : List Ob) : BdL S (Ls.enc (LsO l)) = True := eq_true (lsG_bd S l)
theorem obj_at (l : List Ob) (id : Int) (hl : l.length ≤ 1000000) (hs : RisO l) : Pure Try.prog 114 [.agg (Ls.enc (LsO l)), .int .u64 id] (.tup [.int .i64 (posO l id), .bool (hitO l id)]) := by
  refine pureI (by kernel_rfl) (by simp only [go_sem, *]) (by simp only [go_sem, *]) Try.func114 Try.results114 rfl (by simp [Try.ntmps114]) (by kernel_rfl) ?_
  have h := search_ob l id hl hs
  unfold lsG at h
  rw [← hset_heapL] at h
  repeat' (first
    | (show pwOps ..; first | refine pops_nil ?_ | refine pops_n rfl ?_ | refine pops_w' rfl rfl ?_)
    | (show runGo ..; first | refine run_ev rfl rfl ?_ | refine run_call rfl ?_)
    | (show goOn ..; first | refine on_nop ?_ | refine on_new ?_ | refine on_put ?_ | refine on_born ?_ | refine on_grow ?_)
    | (show putGo ..; refine put_box ?_)
    | (show wGo ..; first | refine gw_tt ?_ | refine gw_ff ?_ | refine gw_tf ?_ | refine gw_ft ?_ | refine gw_u ?_ | refine gw_tn (fun _ => ?_) (fun _ => ?_) | refine gw_fn (fun _ => ?_) (fun _ => ?_) | refine gw_tb (fun _ => ?_) (fun _ => ?_) | refine gw_fb (fun _ => ?_) (fun _ => ?_))
    | (show dr ..; first | refine dr_nil ?_ | refine dr_n rfl ?_ | refine dr_w' rfl rfl ?_)
    | (show drGo ..; first | refine dr_ev rfl ?_ | refine dr_call rfl ?_)
    | (show drOn ..; first | refine dn_nop ?_ | refine dn_new ?_ | refine dn_put ?_ | refine dn_born ?_ | refine dn_grow ?_)
    | (show dputGo ..; refine dput_box ?_)
    | (refine And.intro (by kernel_rfl : okAll _ = true) ?_)
    | (show pwCode ..; first | refine pc_seq ?_ | refine pc_region ?_ | refine pc_draw (by kernel_rfl) ?_ | refine pc_ret ?_ | refine pc_skip ?_ | refine pc_block ?_ | refine pc_exit ?_ | refine pc_cond ?_)
    | (show condGo ..; first | refine cd_t ?_ | refine cd_f ?_ | refine cd_n (fun _ => ?_) (fun _ => ?_) | refine cd_b (fun _ => ?_) (fun _ => ?_))
    | refine th_normal ?_
    | refine th_ret ?_
    | refine th_exit ?_
    | refine th_pan ?_
    | refine bl_normal ?_
    | refine bl_exit ?_
    | refine bl_pass rfl ?_
    | refine bl_ret ?_
    | refine bl_pan ?_
    | (show retQ ..; first | refine rt_ret ?_ | refine rt_normal ?_)
    | refine rs_some ?_)
  (refine call_csat (by kernel_rfl) (h) ?_ ?_)
  case refine_2 => rintro p H' m' h; cases h
  rintro r H' m' h
  cases h
  repeat' (first
    | (show pwOps ..; first | refine pops_nil ?_ | refine pops_n rfl ?_ | refine pops_w' rfl rfl ?_)
    | (show runGo ..; first | refine run_ev rfl rfl ?_ | refine run_call rfl ?_)
    | (show goOn ..; first | refine on_nop ?_ | refine on_new ?_ | refine on_put ?_ | refine on_born ?_ | refine on_grow ?_)
    | (show putGo ..; refine put_box ?_)
    | (show wGo ..; first | refine gw_tt ?_ | refine gw_ff ?_ | refine gw_tf ?_ | refine gw_ft ?_ | refine gw_u ?_ | refine gw_tn (fun _ => ?_) (fun _ => ?_) | refine gw_fn (fun _ => ?_) (fun _ => ?_) | refine gw_tb (fun _ => ?_) (fun _ => ?_) | refine gw_fb (fun _ => ?_) (fun _ => ?_))
    | (show dr ..; first | refine dr_nil ?_ | refine dr_n rfl ?_ | refine dr_w' rfl rfl ?_)
    | (show drGo ..; first | refine dr_ev rfl ?_ | refine dr_call rfl ?_)
    | (show drOn ..; first | refine dn_nop ?_ | refine dn_new ?_ | refine dn_put ?_ | refine dn_born ?_ | refine dn_grow ?_)
    | (show dputGo ..; refine dput_box ?_)
    | (refine And.intro (by kernel_rfl : okAll _ = true) ?_)
    | (show pwCode ..; first | refine pc_seq ?_ | refine pc_region ?_ | refine pc_draw (by kernel_rfl) ?_ | refine pc_ret ?_ | refine pc_skip ?_ | refine pc_block ?_ | refine pc_exit ?_ | refine pc_cond ?_)
    | (show condGo ..; first | refine cd_t ?_ | refine cd_f ?_ | refine cd_n (fun _ => ?_) (fun _ => ?_) | refine cd_b (fun _ => ?_) (fun _ => ?_))
    | refine th_normal ?_
    | refine th_ret ?_
    | refine th_exit ?_
    | refine th_pan ?_
    | refine bl_normal ?_
    | refine bl_exit ?_
    | refine bl_pass rfl ?_
    | refine bl_ret ?_
    | refine bl_pan ?_
    | (show retQ ..; first | refine rt_ret ?_ | refine rt_normal ?_)
    | refine rs_some ?_)
  all_goals rfl
theorem obj_objects (w : Wd) : Pure Try.prog 111 [.agg (Wd.enc w)] (.agg (Ls.enc (LsO w.objects))) := by
  refine pureI (by kernel_rfl) (by simp only [go_sem, *]) (by simp only [go_sem, *]) Try.func111 Try.results111 rfl (by simp [Try.ntmps111]) (by kernel_rfl) ?_
  repeat' (first
    | (show pwOps ..; first | refine pops_nil ?_ | refine pops_n rfl ?_ | refine pops_w' rfl rfl ?_)
    | (show runGo ..; first | refine run_ev rfl rfl ?_ | refine run_call rfl ?_)
    | (show goOn ..; first | refine on_nop ?_ | refine on_new ?_ | refine on_put ?_ | refine on_born ?_ | refine on_grow ?_)
    | (show putGo ..; refine put_box ?_)
    | (show wGo ..; first | refine gw_tt ?_ | refine gw_ff ?_ | refine gw_tf ?_ | refine gw_ft ?_ | refine gw_u ?_ | refine gw_tn (fun _ => ?_) (fun _ => ?_) | refine gw_fn (fun _ => ?_) (fun _ => ?_) | refine gw_tb (fun _ => ?_) (fun _ => ?_) | refine gw_fb (fun _ => ?_) (fun _ => ?_))
    | (show dr ..; first | refine dr_nil ?_ | refine dr_n rfl ?_ | refine dr_w' rfl rfl ?_)
    | (show drGo ..; first | refine dr_ev rfl ?_ | refine dr_call rfl ?_)
    | (show drOn ..; first | refine dn_nop ?_ | refine dn_new ?_ | refine dn_put ?_ | refine dn_born ?_ | refine dn_grow ?_)
    | (show dputGo ..; refine dput_box ?_)
    | (refine And.intro (by kernel_rfl : okAll _ = true) ?_)
    | (show pwCode ..; first | refine pc_seq ?_ | refine pc_region ?_ | refine pc_draw (by kernel_rfl) ?_ | refine pc_ret ?_ | refine pc_skip ?_ | refine pc_block ?_ | refine pc_exit ?_ | refine pc_cond ?_)
    | (show condGo ..; first | refine cd_t ?_ | refine cd_f ?_ | refine cd_n (fun _ => ?_) (fun _ => ?_) | refine cd_b (fun _ => ?_) (fun _ => ?_))
    | refine th_normal ?_
    | refine th_ret ?_
    | refine th_exit ?_
    | refine th_pan ?_
    | refine bl_normal ?_
    | refine bl_exit ?_
    | refine bl_pass rfl ?_
    | refine bl_ret ?_
    | refine bl_pan ?_
    | (show retQ ..; first | refine rt_ret ?_ | refine rt_normal ?_)
    | refine rs_some ?_)
  all_goals rfl
theorem rows_len (l : List Ob) : ∀ e ∈ l.map Ob.enc, e.length = szOb := fun e he => by obtain ⟨y, _, rfl⟩ := List.mem_map.1 he; exact Ob.len y
theorem flat_mlen (l : List Ob) : (l.map Ob.enc).flatten.length = l.length * 51 := by rw [flatten_length (rows_len l), List.length_map]; rfl
theorem flat_mset (l : List Ob) (k : Nat) (x : Ob) (hk : k < l.length) : ((l.set k x).map Ob.enc).flatten = splice (l.map Ob.enc).flatten (k * 51) (Ob.enc x) := by
  induction l generalizing k with
  | nil => simp at hk
  | cons a l ih =>
    cases k with
    | zero =>
      simp only [List.set_cons_zero, List.map_cons, List.flatten_cons, Nat.zero_mul, splice, List.take_zero, List.nil_append, Nat.zero_add]
      rw [List.drop_left' (by rw [Ob.len, Ob.len])]
    | succ k =>
      have := ih k (by simpa using hk)
      simp only [List.set_cons_succ, List.map_cons, List.flatten_cons, this]
      have e : (Ob.enc a).length = 51 := Ob.len a
      have h1 : ∀ (R : List PV), (Ob.enc a ++ R).take ((k + 1) * 51) = Ob.enc a ++ R.take (k * 51) := fun R => by
        rw [List.take_append, List.take_of_length_le (by rw [e]; omega), e, show (k + 1) * 51 - 51 = k * 51 by omega]
      have h2 : ∀ (R : List PV), (Ob.enc a ++ R).drop ((k + 1) * 51 + (Ob.enc x).length) = R.drop (k * 51 + (Ob.enc x).length) := fun R => by
        rw [List.drop_append, List.drop_eq_nil_of_le (by rw [e]; omega), e, show (k + 1) * 51 + (Ob.enc x).length - 51 = k * 51 + (Ob.enc x).length by omega, List.nil_append]
      unfold splice
      rw [h1, h2]
      simp only [List.append_assoc]
theorem ins_ob {fn : FuncId} (hins : InsertC Try.prog fn 40 szOb) {l : List Ob} {k : Nat} (hk : k ≤ l.length) (x : Ob) (hl : l.length ≤ 1000000) {H : Heap} {m id ix e1 z1 : Nat} (hid : H id = some (.box (l.map Ob.enc).flatten)) (hix : H ix = some (.box [Ob.enc x].flatten)) (hne : ix ≠ id) :
    CSat Try.prog fn [.bs id l.length 40 szOb, .int .i64 k, .bs ix 1 e1 z1] H m (fun out H' m' =>
      (out = .ret (.bs id ((l.take k ++ x :: l.drop k).length) 40 szOb) ∧ H' = hset H id (some (.box ((l.take k ++ x :: l.drop k).map Ob.enc).flatten)) ∧ m' = m) ∨
      (out = .ret (.bs m ((l.take k ++ x :: l.drop k).length) 40 szOb) ∧ H' = hset H m (some (.box ((l.take k ++ x :: l.drop k).map Ob.enc).flatten)) ∧ m' = m + 1)) := by
  have := insert_csat hins (els := l.map Ob.enc) (rows_len l) (by simpa using hl) (k := k) (by simpa using hk) (xe := [Ob.enc x].flatten) (by simp only [List.flatten_cons, List.flatten_nil, List.append_nil]; exact Ob.len x) (m := m) (e1 := e1) (z1 := z1) hid hix hne
  have e : (l.map Ob.enc).take k ++ [Ob.enc x].flatten :: (l.map Ob.enc).drop k = (l.take k ++ x :: l.drop k).map Ob.enc := by simp
  rw [e, List.length_map, List.length_map] at this
  exact this
theorem del_ob {fn : FuncId} (hdel : DeleteC Try.prog fn 40 szOb) {l : List Ob} {k : Nat} (hk : k < l.length) (hl : l.length ≤ 1000000) {H : Heap} {m id : Nat} (hid : H id = some (.box (l.map Ob.enc).flatten)) :
    CSat Try.prog fn [.bs id l.length 40 szOb, .int .i64 k, .int .i64 ((k : Int) + 1)] H m (fun out H' m' => out = .ret (.bs id (l.eraseIdx k).length 40 szOb) ∧ H' = hset H id (some (.box ((l.eraseIdx k).map Ob.enc).flatten)) ∧ m' = m) := by
  have := delete_csat hdel (els := l.map Ob.enc) (rows_len l) (by simpa using hl) (k := k) (by simpa using hk) (m := m) hid
  have e : (l.map Ob.enc).eraseIdx k = (l.eraseIdx k).map Ob.enc := by rw [List.eraseIdx_eq_take_drop_succ, List.eraseIdx_eq_take_drop_succ, List.map_append, List.map_take, List.map_drop]
  rw [e, List.length_map, List.length_map] at this
  exact this
theorem hit_lt {l : List Ob} {id : Int} (h : hitO l id = true) : ∃ x, l[posO l id]? = some x ∧ x.id = id ∧ posO l id < l.length := by
  unfold hitO at h
  split at h
  · rename_i x hx; exact ⟨x, hx, by simpa using h, len_lt hx⟩
  · cases h
def withL (l : List Ob) (x : Ob) : List Ob := if hitO l x.id = true then l.set (posO l x.id) x else l.take (posO l x.id) ++ x :: l.drop (posO l x.id)
theorem obj_with (l : List Ob) (x : Ob) (hl : l.length ≤ 1000000) (hs : RisO l) : Pure Try.prog 112 [.agg (Ls.enc (LsO l)), .agg (Ob.enc x)] (.sl ((withL l x).map Ob.enc)) := by
  have hat := obj_at l x.id hl hs
  have hcl : CloneC Try.prog 139 40 szOb := cloneOb_calls
  have hins : InsertC Try.prog 140 40 szOb := fun l v k x vb cv base w h1 h2 {cx tx} h3 h4 h5 h6 h7 => insertOb_calls l v k x vb cv base w h1 h2 h3 h4 h5 h6 h7
  have hpl := pos_le l x.id
  cases hh : hitO l x.id with
  | true =>
    rw [hh] at hat
    obtain ⟨y, hy, hyid, hk⟩ := hit_lt hh
    have hw : withL l x = l.set (posO l x.id) x := by unfold withL; rw [if_pos hh]
    rw [hw]
    clear hh hw
    refine pureF (by kernel_rfl) (by simp only [go_sem, *]) Try.func112 Try.results112 rfl (by simp [Try.ntmps112]) (by kernel_rfl) ?_
    repeat' (first
    | (show pwOps ..; first | refine pops_nil ?_ | refine pops_n rfl ?_ | refine pops_w' rfl rfl ?_)
    | (show runGo ..; first | (refine run_bs rfl rfl ?_; first | refine on_new ?_ | (refine on_put ?_; refine put_box ?_)) | refine run_ev rfl rfl ?_ | refine run_call rfl ?_)
    | (show goOn ..; first | refine on_nop ?_ | refine on_new ?_ | refine on_put ?_ | refine on_born ?_ | refine on_grow ?_)
    | (show putGo ..; refine put_box ?_)
    | (show callGo ..; (refine call_pure (r := ?_) ?_ ?_; rotate_left 1; (focus first | exact obj_idOf _ | exact hat)))
    | (show wGo ..; first | refine gw_tt ?_ | refine gw_ff ?_ | refine gw_tf ?_ | refine gw_ft ?_ | refine gw_u ?_ | refine gw_tn (fun _ => ?_) (fun _ => ?_) | refine gw_fn (fun _ => ?_) (fun _ => ?_) | refine gw_tb (fun _ => ?_) (fun _ => ?_) | refine gw_fb (fun _ => ?_) (fun _ => ?_))
    | (show dr ..; first | refine dr_nil ?_ | refine dr_n rfl ?_ | refine dr_w' rfl rfl ?_)
    | (show drGo ..; first | refine dr_ev rfl ?_ | refine dr_call rfl ?_)
    | (show drOn ..; first | refine dn_nop ?_ | refine dn_new ?_ | refine dn_put ?_ | refine dn_born ?_ | refine dn_grow ?_)
    | (show dputGo ..; refine dput_box ?_)
    | (show dcallGo ..; (refine dcall_pure (r := ?_) ?_ ?_; rotate_left 1; (focus first | exact obj_idOf _ | exact hat)))
    | (refine And.intro (by kernel_rfl : okAll _ = true) ?_)
    | (show pwCode ..; first | refine pc_seq ?_ | refine pc_region ?_ | refine pc_draw (by kernel_rfl) ?_ | refine pc_ret ?_ | refine pc_skip ?_ | refine pc_block ?_ | refine pc_exit ?_ | refine pc_cond ?_)
    | (show condGo ..; first | refine cd_t ?_ | refine cd_f ?_ | refine cd_n (fun _ => ?_) (fun _ => ?_) | refine cd_b (fun _ => ?_) (fun _ => ?_))
    | refine th_normal ?_
    | refine th_ret ?_
    | refine th_exit ?_
    | refine th_pan ?_
    | refine bl_normal ?_
    | refine bl_exit ?_
    | refine bl_pass rfl ?_
    | refine bl_ret ?_
    | refine bl_pan ?_
    | (show retQ ..; first | refine rt_ret ?_ | refine rt_normal ?_)
    | refine rs_some ?_)
    (refine call_csat (by kernel_rfl) (clone_csat hcl (els := l.map Ob.enc) (rows_len l) (by simpa using hl) _ _) ?_ ?_)
    case refine_2 => rintro p H' m' (⟨_, h, _⟩ | ⟨h, _⟩) <;> cases h
    rintro r H' m' (⟨hnil, _⟩ | ⟨h, rfl, rfl⟩)
    · have : l = [] := by simpa using hnil
      subst this; simp at hk
    · cases h
      have h1 : ((posO l x.id : Int) < (l.length : Int)) = True := eq_true (by omega)
      have h2 : (posO l x.id * 51 + 51 ≤ ((l.map Ob.enc).flatten).length) = True := eq_true (by rw [flat_mlen]; omega)
      repeat' (first
    | (show pwOps ..; first | refine pops_nil ?_ | refine pops_n rfl ?_ | refine pops_w' rfl rfl ?_)
    | (show runGo ..; first | (refine run_bs rfl rfl ?_; first | refine on_new ?_ | (refine on_put ?_; refine put_box ?_)) | refine run_ev rfl rfl ?_ | refine run_call rfl ?_)
    | (show goOn ..; first | refine on_nop ?_ | refine on_new ?_ | refine on_put ?_ | refine on_born ?_ | refine on_grow ?_)
    | (show putGo ..; refine put_box ?_)
    | (show wGo ..; first | refine gw_tt ?_ | refine gw_ff ?_ | refine gw_tf ?_ | refine gw_ft ?_ | refine gw_u ?_ | refine gw_tn (fun _ => ?_) (fun _ => ?_) | refine gw_fn (fun _ => ?_) (fun _ => ?_) | refine gw_tb (fun _ => ?_) (fun _ => ?_) | refine gw_fb (fun _ => ?_) (fun _ => ?_))
    | (show dr ..; first | refine dr_nil ?_ | refine dr_n rfl ?_ | refine dr_w' rfl rfl ?_)
    | (show drGo ..; first | refine dr_ev rfl ?_ | refine dr_call rfl ?_)
    | (show drOn ..; first | refine dn_nop ?_ | refine dn_new ?_ | refine dn_put ?_ | refine dn_born ?_ | refine dn_grow ?_)
    | (show dputGo ..; refine dput_box ?_)
    | (refine And.intro (by kernel_rfl : okAll _ = true) ?_)
    | (show pwCode ..; first | refine pc_seq ?_ | refine pc_region ?_ | refine pc_draw (by kernel_rfl) ?_ | refine pc_ret ?_ | refine pc_skip ?_ | refine pc_block ?_ | refine pc_exit ?_ | refine pc_cond ?_)
    | (show condGo ..; first | refine cd_t ?_ | refine cd_f ?_ | refine cd_n (fun _ => ?_) (fun _ => ?_) | refine cd_b (fun _ => ?_) (fun _ => ?_))
    | refine th_normal ?_
    | refine th_ret ?_
    | refine th_exit ?_
    | refine th_pan ?_
    | refine bl_normal ?_
    | refine bl_exit ?_
    | refine bl_pass rfl ?_
    | refine bl_ret ?_
    | refine bl_pan ?_
    | (show retQ ..; first | refine rt_ret ?_ | refine rt_normal ?_)
    | refine rs_some ?_)
      refine ⟨_, rfl, fz_bs szOb (by (try simp only [go_sem]); try rfl) (by rw [List.length_map, List.length_set]) (rows_len _) (flat_mset _ _ _ hk) (by simp only [go_sem])⟩
  | false =>
    rw [hh] at hat
    have hw : withL l x = l.take (posO l x.id) ++ x :: l.drop (posO l x.id) := by unfold withL; rw [if_neg (by rw [hh]; simp)]
    rw [hw]
    clear hh hw
    refine pureF (by kernel_rfl) (by simp only [go_sem, *]) Try.func112 Try.results112 rfl (by simp [Try.ntmps112]) (by kernel_rfl) ?_
    repeat' (first
    | (show pwOps ..; first | refine pops_nil ?_ | refine pops_n rfl ?_ | refine pops_w' rfl rfl ?_)
    | (show runGo ..; first | (refine run_bs rfl rfl ?_; first | refine on_new ?_ | (refine on_put ?_; refine put_box ?_)) | refine run_ev rfl rfl ?_ | refine run_call rfl ?_)
    | (show goOn ..; first | refine on_nop ?_ | refine on_new ?_ | refine on_put ?_ | refine on_born ?_ | refine on_grow ?_)
    | (show putGo ..; refine put_box ?_)
    | (show callGo ..; (refine call_pure (r := ?_) ?_ ?_; rotate_left 1; (focus first | exact obj_idOf _ | exact hat)))
    | (show wGo ..; first | refine gw_tt ?_ | refine gw_ff ?_ | refine gw_tf ?_ | refine gw_ft ?_ | refine gw_u ?_ | refine gw_tn (fun _ => ?_) (fun _ => ?_) | refine gw_fn (fun _ => ?_) (fun _ => ?_) | refine gw_tb (fun _ => ?_) (fun _ => ?_) | refine gw_fb (fun _ => ?_) (fun _ => ?_))
    | (show dr ..; first | refine dr_nil ?_ | refine dr_n rfl ?_ | refine dr_w' rfl rfl ?_)
    | (show drGo ..; first | refine dr_ev rfl ?_ | refine dr_call rfl ?_)
    | (show drOn ..; first | refine dn_nop ?_ | refine dn_new ?_ | refine dn_put ?_ | refine dn_born ?_ | refine dn_grow ?_)
    | (show dputGo ..; refine dput_box ?_)
    | (show dcallGo ..; (refine dcall_pure (r := ?_) ?_ ?_; rotate_left 1; (focus first | exact obj_idOf _ | exact hat)))
    | (refine And.intro (by kernel_rfl : okAll _ = true) ?_)
    | (show pwCode ..; first | refine pc_seq ?_ | refine pc_region ?_ | refine pc_draw (by kernel_rfl) ?_ | refine pc_ret ?_ | refine pc_skip ?_ | refine pc_block ?_ | refine pc_exit ?_ | refine pc_cond ?_)
    | (show condGo ..; first | refine cd_t ?_ | refine cd_f ?_ | refine cd_n (fun _ => ?_) (fun _ => ?_) | refine cd_b (fun _ => ?_) (fun _ => ?_))
    | refine th_normal ?_
    | refine th_ret ?_
    | refine th_exit ?_
    | refine th_pan ?_
    | refine bl_normal ?_
    | refine bl_exit ?_
    | refine bl_pass rfl ?_
    | refine bl_ret ?_
    | refine bl_pan ?_
    | (show retQ ..; first | refine rt_ret ?_ | refine rt_normal ?_)
    | refine rs_some ?_)
    (refine call_csat (by kernel_rfl) (clone_csat hcl (els := l.map Ob.enc) (rows_len l) (by simpa using hl) _ _) ?_ ?_)
    case refine_2 => rintro p H' m' (⟨_, h, _⟩ | ⟨h, _⟩) <;> cases h
    rintro r H' m' (⟨hnil, h, rfl, rfl⟩ | ⟨h, rfl, rfl⟩)
    · cases h
      have : l = [] := by simpa using hnil
      subst this
      have hp0 : posO ([] : List Ob) x.id = 0 := rfl
      repeat' (first
    | (show pwOps ..; first | refine pops_nil ?_ | refine pops_n rfl ?_ | refine pops_w' rfl rfl ?_)
    | (show runGo ..; first | (refine run_bs rfl rfl ?_; first | refine on_new ?_ | (refine on_put ?_; refine put_box ?_)) | refine run_ev rfl rfl ?_ | refine run_call rfl ?_)
    | (show goOn ..; first | refine on_nop ?_ | refine on_new ?_ | refine on_put ?_ | refine on_born ?_ | refine on_grow ?_)
    | (show putGo ..; refine put_box ?_)
    | (show wGo ..; first | refine gw_tt ?_ | refine gw_ff ?_ | refine gw_tf ?_ | refine gw_ft ?_ | refine gw_u ?_ | refine gw_tn (fun _ => ?_) (fun _ => ?_) | refine gw_fn (fun _ => ?_) (fun _ => ?_) | refine gw_tb (fun _ => ?_) (fun _ => ?_) | refine gw_fb (fun _ => ?_) (fun _ => ?_))
    | (show dr ..; first | refine dr_nil ?_ | refine dr_n rfl ?_ | refine dr_w' rfl rfl ?_)
    | (show drGo ..; first | refine dr_ev rfl ?_ | refine dr_call rfl ?_)
    | (show drOn ..; first | refine dn_nop ?_ | refine dn_new ?_ | refine dn_put ?_ | refine dn_born ?_ | refine dn_grow ?_)
    | (show dputGo ..; refine dput_box ?_)
    | (refine And.intro (by kernel_rfl : okAll _ = true) ?_)
    | (show pwCode ..; first | refine pc_seq ?_ | refine pc_region ?_ | refine pc_draw (by kernel_rfl) ?_ | refine pc_ret ?_ | refine pc_skip ?_ | refine pc_block ?_ | refine pc_exit ?_ | refine pc_cond ?_)
    | (show condGo ..; first | refine cd_t ?_ | refine cd_f ?_ | refine cd_n (fun _ => ?_) (fun _ => ?_) | refine cd_b (fun _ => ?_) (fun _ => ?_))
    | refine th_normal ?_
    | refine th_ret ?_
    | refine th_exit ?_
    | refine th_pan ?_
    | refine bl_normal ?_
    | refine bl_exit ?_
    | refine bl_pass rfl ?_
    | refine bl_ret ?_
    | refine bl_pan ?_
    | (show retQ ..; first | refine rt_ret ?_ | refine rt_normal ?_)
    | refine rs_some ?_)
      (refine call_csat (by kernel_rfl) (insert0_csat hins (xe := [Ob.enc x].flatten) (by simp only [List.flatten_cons, List.flatten_nil, List.append_nil]; exact Ob.len x) (by simp only [go_sem])) ?_ ?_)
      case refine_2 => rintro p H' m' ⟨h, _⟩; cases h
      rintro r H' m' ⟨h, rfl, rfl⟩
      cases h
      repeat' (first
    | (show pwOps ..; first | refine pops_nil ?_ | refine pops_n rfl ?_ | refine pops_w' rfl rfl ?_)
    | (show runGo ..; first | (refine run_bs rfl rfl ?_; first | refine on_new ?_ | (refine on_put ?_; refine put_box ?_)) | refine run_ev rfl rfl ?_ | refine run_call rfl ?_)
    | (show goOn ..; first | refine on_nop ?_ | refine on_new ?_ | refine on_put ?_ | refine on_born ?_ | refine on_grow ?_)
    | (show putGo ..; refine put_box ?_)
    | (show wGo ..; first | refine gw_tt ?_ | refine gw_ff ?_ | refine gw_tf ?_ | refine gw_ft ?_ | refine gw_u ?_ | refine gw_tn (fun _ => ?_) (fun _ => ?_) | refine gw_fn (fun _ => ?_) (fun _ => ?_) | refine gw_tb (fun _ => ?_) (fun _ => ?_) | refine gw_fb (fun _ => ?_) (fun _ => ?_))
    | (show dr ..; first | refine dr_nil ?_ | refine dr_n rfl ?_ | refine dr_w' rfl rfl ?_)
    | (show drGo ..; first | refine dr_ev rfl ?_ | refine dr_call rfl ?_)
    | (show drOn ..; first | refine dn_nop ?_ | refine dn_new ?_ | refine dn_put ?_ | refine dn_born ?_ | refine dn_grow ?_)
    | (show dputGo ..; refine dput_box ?_)
    | (refine And.intro (by kernel_rfl : okAll _ = true) ?_)
    | (show pwCode ..; first | refine pc_seq ?_ | refine pc_region ?_ | refine pc_draw (by kernel_rfl) ?_ | refine pc_ret ?_ | refine pc_skip ?_ | refine pc_block ?_ | refine pc_exit ?_ | refine pc_cond ?_)
    | (show condGo ..; first | refine cd_t ?_ | refine cd_f ?_ | refine cd_n (fun _ => ?_) (fun _ => ?_) | refine cd_b (fun _ => ?_) (fun _ => ?_))
    | refine th_normal ?_
    | refine th_ret ?_
    | refine th_exit ?_
    | refine th_pan ?_
    | refine bl_normal ?_
    | refine bl_exit ?_
    | refine bl_pass rfl ?_
    | refine bl_ret ?_
    | refine bl_pan ?_
    | (show retQ ..; first | refine rt_ret ?_ | refine rt_normal ?_)
    | refine rs_some ?_)
      refine ⟨_, rfl, fz_bs szOb (by (try simp only [go_sem]); try rfl) (by simp) (rows_len _) (by simp) (by simp only [go_sem])⟩
    · cases h
      repeat' (first
    | (show pwOps ..; first | refine pops_nil ?_ | refine pops_n rfl ?_ | refine pops_w' rfl rfl ?_)
    | (show runGo ..; first | (refine run_bs rfl rfl ?_; first | refine on_new ?_ | (refine on_put ?_; refine put_box ?_)) | refine run_ev rfl rfl ?_ | refine run_call rfl ?_)
    | (show goOn ..; first | refine on_nop ?_ | refine on_new ?_ | refine on_put ?_ | refine on_born ?_ | refine on_grow ?_)
    | (show putGo ..; refine put_box ?_)
    | (show wGo ..; first | refine gw_tt ?_ | refine gw_ff ?_ | refine gw_tf ?_ | refine gw_ft ?_ | refine gw_u ?_ | refine gw_tn (fun _ => ?_) (fun _ => ?_) | refine gw_fn (fun _ => ?_) (fun _ => ?_) | refine gw_tb (fun _ => ?_) (fun _ => ?_) | refine gw_fb (fun _ => ?_) (fun _ => ?_))
    | (show dr ..; first | refine dr_nil ?_ | refine dr_n rfl ?_ | refine dr_w' rfl rfl ?_)
    | (show drGo ..; first | refine dr_ev rfl ?_ | refine dr_call rfl ?_)
    | (show drOn ..; first | refine dn_nop ?_ | refine dn_new ?_ | refine dn_put ?_ | refine dn_born ?_ | refine dn_grow ?_)
    | (show dputGo ..; refine dput_box ?_)
    | (refine And.intro (by kernel_rfl : okAll _ = true) ?_)
    | (show pwCode ..; first | refine pc_seq ?_ | refine pc_region ?_ | refine pc_draw (by kernel_rfl) ?_ | refine pc_ret ?_ | refine pc_skip ?_ | refine pc_block ?_ | refine pc_exit ?_ | refine pc_cond ?_)
    | (show condGo ..; first | refine cd_t ?_ | refine cd_f ?_ | refine cd_n (fun _ => ?_) (fun _ => ?_) | refine cd_b (fun _ => ?_) (fun _ => ?_))
    | refine th_normal ?_
    | refine th_ret ?_
    | refine th_exit ?_
    | refine th_pan ?_
    | refine bl_normal ?_
    | refine bl_exit ?_
    | refine bl_pass rfl ?_
    | refine bl_ret ?_
    | refine bl_pan ?_
    | (show retQ ..; first | refine rt_ret ?_ | refine rt_normal ?_)
    | refine rs_some ?_)
      (refine call_csat (by kernel_rfl) (ins_ob hins hpl x hl (id := 2) (ix := 3) (by simp only [go_sem]) (by simp only [go_sem]) (by decide)) ?_ ?_)
      case refine_2 => rintro p H' m' (⟨h, _⟩ | ⟨h, _⟩) <;> cases h
      rintro r H' m' (⟨h, rfl, rfl⟩ | ⟨h, rfl, rfl⟩)
      all_goals cases h
      all_goals repeat' (first
    | (show pwOps ..; first | refine pops_nil ?_ | refine pops_n rfl ?_ | refine pops_w' rfl rfl ?_)
    | (show runGo ..; first | (refine run_bs rfl rfl ?_; first | refine on_new ?_ | (refine on_put ?_; refine put_box ?_)) | refine run_ev rfl rfl ?_ | refine run_call rfl ?_)
    | (show goOn ..; first | refine on_nop ?_ | refine on_new ?_ | refine on_put ?_ | refine on_born ?_ | refine on_grow ?_)
    | (show putGo ..; refine put_box ?_)
    | (show wGo ..; first | refine gw_tt ?_ | refine gw_ff ?_ | refine gw_tf ?_ | refine gw_ft ?_ | refine gw_u ?_ | refine gw_tn (fun _ => ?_) (fun _ => ?_) | refine gw_fn (fun _ => ?_) (fun _ => ?_) | refine gw_tb (fun _ => ?_) (fun _ => ?_) | refine gw_fb (fun _ => ?_) (fun _ => ?_))
    | (show dr ..; first | refine dr_nil ?_ | refine dr_n rfl ?_ | refine dr_w' rfl rfl ?_)
    | (show drGo ..; first | refine dr_ev rfl ?_ | refine dr_call rfl ?_)
    | (show drOn ..; first | refine dn_nop ?_ | refine dn_new ?_ | refine dn_put ?_ | refine dn_born ?_ | refine dn_grow ?_)
    | (show dputGo ..; refine dput_box ?_)
    | (refine And.intro (by kernel_rfl : okAll _ = true) ?_)
    | (show pwCode ..; first | refine pc_seq ?_ | refine pc_region ?_ | refine pc_draw (by kernel_rfl) ?_ | refine pc_ret ?_ | refine pc_skip ?_ | refine pc_block ?_ | refine pc_exit ?_ | refine pc_cond ?_)
    | (show condGo ..; first | refine cd_t ?_ | refine cd_f ?_ | refine cd_n (fun _ => ?_) (fun _ => ?_) | refine cd_b (fun _ => ?_) (fun _ => ?_))
    | refine th_normal ?_
    | refine th_ret ?_
    | refine th_exit ?_
    | refine th_pan ?_
    | refine bl_normal ?_
    | refine bl_exit ?_
    | refine bl_pass rfl ?_
    | refine bl_ret ?_
    | refine bl_pan ?_
    | (show retQ ..; first | refine rt_ret ?_ | refine rt_normal ?_)
    | refine rs_some ?_)
      all_goals (refine ⟨_, rfl, fz_bs szOb (by (try simp only [go_sem]); try rfl) (by simp) (rows_len _) (by simp) (by simp only [go_sem])⟩)
def withoutL (l : List Ob) (id : Int) : List Ob := if hitO l id = true then l.eraseIdx (posO l id) else l
theorem obj_without (l : List Ob) (id : Int) (hl : l.length ≤ 1000000) (hs : RisO l) : Pure Try.prog 113 [.agg (Ls.enc (LsO l)), .int .u64 id] (.sl ((withoutL l id).map Ob.enc)) := by
  have hat := obj_at l id hl hs
  have hcl : CloneC Try.prog 139 40 szOb := cloneOb_calls
  have hdel : DeleteC Try.prog 141 40 szOb := fun l v k base w h1 h2 h3 => deleteOb_calls l v k base w h1 h2 h3
  cases hh : hitO l id with
  | true =>
    rw [hh] at hat
    obtain ⟨y, hy, hyid, hk⟩ := hit_lt hh
    have hw : withoutL l id = l.eraseIdx (posO l id) := by unfold withoutL; rw [if_pos hh]
    rw [hw]
    clear hh hw
    refine pureF (by kernel_rfl) (by simp only [go_sem, *]) Try.func113 Try.results113 rfl (by simp [Try.ntmps113]) (by kernel_rfl) ?_
    repeat' (first
    | (show pwOps ..; first | refine pops_nil ?_ | refine pops_n rfl ?_ | refine pops_w' rfl rfl ?_)
    | (show runGo ..; first | (refine run_bs rfl rfl ?_; first | refine on_new ?_ | (refine on_put ?_; refine put_box ?_)) | refine run_ev rfl rfl ?_ | refine run_call rfl ?_)
    | (show goOn ..; first | refine on_nop ?_ | refine on_new ?_ | refine on_put ?_ | refine on_born ?_ | refine on_grow ?_)
    | (show putGo ..; refine put_box ?_)
    | (show callGo ..; (refine call_pure (r := ?_) ?_ ?_; rotate_left 1; (focus first | exact hat)))
    | (show wGo ..; first | refine gw_tt ?_ | refine gw_ff ?_ | refine gw_tf ?_ | refine gw_ft ?_ | refine gw_u ?_ | refine gw_tn (fun _ => ?_) (fun _ => ?_) | refine gw_fn (fun _ => ?_) (fun _ => ?_) | refine gw_tb (fun _ => ?_) (fun _ => ?_) | refine gw_fb (fun _ => ?_) (fun _ => ?_))
    | (show dr ..; first | refine dr_nil ?_ | refine dr_n rfl ?_ | refine dr_w' rfl rfl ?_)
    | (show drGo ..; first | refine dr_ev rfl ?_ | refine dr_call rfl ?_)
    | (show drOn ..; first | refine dn_nop ?_ | refine dn_new ?_ | refine dn_put ?_ | refine dn_born ?_ | refine dn_grow ?_)
    | (show dputGo ..; refine dput_box ?_)
    | (show dcallGo ..; (refine dcall_pure (r := ?_) ?_ ?_; rotate_left 1; (focus first | exact hat)))
    | (refine And.intro (by kernel_rfl : okAll _ = true) ?_)
    | (show pwCode ..; first | refine pc_seq ?_ | refine pc_region ?_ | refine pc_draw (by kernel_rfl) ?_ | refine pc_ret ?_ | refine pc_skip ?_ | refine pc_block ?_ | refine pc_exit ?_ | refine pc_cond ?_)
    | (show condGo ..; first | refine cd_t ?_ | refine cd_f ?_ | refine cd_n (fun _ => ?_) (fun _ => ?_) | refine cd_b (fun _ => ?_) (fun _ => ?_))
    | refine th_normal ?_
    | refine th_ret ?_
    | refine th_exit ?_
    | refine th_pan ?_
    | refine bl_normal ?_
    | refine bl_exit ?_
    | refine bl_pass rfl ?_
    | refine bl_ret ?_
    | refine bl_pan ?_
    | (show retQ ..; first | refine rt_ret ?_ | refine rt_normal ?_)
    | refine rs_some ?_)
    (refine call_csat (by kernel_rfl) (clone_csat hcl (els := l.map Ob.enc) (rows_len l) (by simpa using hl) _ _) ?_ ?_)
    case refine_2 => rintro p H' m' (⟨_, h, _⟩ | ⟨h, _⟩) <;> cases h
    rintro r H' m' (⟨hnil, _⟩ | ⟨h, rfl, rfl⟩)
    · have : l = [] := by simpa using hnil
      subst this; simp at hk
    · cases h
      have h4 : IntKind.i64.wrap ((posO l id : Int) + 1) = (posO l id : Int) + 1 := by rw [IntKind.wrap_i64]; omega
      repeat' (first
    | (show pwOps ..; first | refine pops_nil ?_ | refine pops_n rfl ?_ | refine pops_w' rfl rfl ?_)
    | (show runGo ..; first | (refine run_bs rfl rfl ?_; first | refine on_new ?_ | (refine on_put ?_; refine put_box ?_)) | refine run_ev rfl rfl ?_ | refine run_call rfl ?_)
    | (show goOn ..; first | refine on_nop ?_ | refine on_new ?_ | refine on_put ?_ | refine on_born ?_ | refine on_grow ?_)
    | (show putGo ..; refine put_box ?_)
    | (show wGo ..; first | refine gw_tt ?_ | refine gw_ff ?_ | refine gw_tf ?_ | refine gw_ft ?_ | refine gw_u ?_ | refine gw_tn (fun _ => ?_) (fun _ => ?_) | refine gw_fn (fun _ => ?_) (fun _ => ?_) | refine gw_tb (fun _ => ?_) (fun _ => ?_) | refine gw_fb (fun _ => ?_) (fun _ => ?_))
    | (show dr ..; first | refine dr_nil ?_ | refine dr_n rfl ?_ | refine dr_w' rfl rfl ?_)
    | (show drGo ..; first | refine dr_ev rfl ?_ | refine dr_call rfl ?_)
    | (show drOn ..; first | refine dn_nop ?_ | refine dn_new ?_ | refine dn_put ?_ | refine dn_born ?_ | refine dn_grow ?_)
    | (show dputGo ..; refine dput_box ?_)
    | (refine And.intro (by kernel_rfl : okAll _ = true) ?_)
    | (show pwCode ..; first | refine pc_seq ?_ | refine pc_region ?_ | refine pc_draw (by kernel_rfl) ?_ | refine pc_ret ?_ | refine pc_skip ?_ | refine pc_block ?_ | refine pc_exit ?_ | refine pc_cond ?_)
    | (show condGo ..; first | refine cd_t ?_ | refine cd_f ?_ | refine cd_n (fun _ => ?_) (fun _ => ?_) | refine cd_b (fun _ => ?_) (fun _ => ?_))
    | refine th_normal ?_
    | refine th_ret ?_
    | refine th_exit ?_
    | refine th_pan ?_
    | refine bl_normal ?_
    | refine bl_exit ?_
    | refine bl_pass rfl ?_
    | refine bl_ret ?_
    | refine bl_pan ?_
    | (show retQ ..; first | refine rt_ret ?_ | refine rt_normal ?_)
    | refine rs_some ?_)
      (refine call_csat (by kernel_rfl) (del_ob hdel hk hl (id := 1) (by simp only [go_sem])) ?_ ?_)
      case refine_2 => rintro p H' m' ⟨h, _⟩; cases h
      rintro r H' m' ⟨h, rfl, rfl⟩
      cases h
      repeat' (first
    | (show pwOps ..; first | refine pops_nil ?_ | refine pops_n rfl ?_ | refine pops_w' rfl rfl ?_)
    | (show runGo ..; first | (refine run_bs rfl rfl ?_; first | refine on_new ?_ | (refine on_put ?_; refine put_box ?_)) | refine run_ev rfl rfl ?_ | refine run_call rfl ?_)
    | (show goOn ..; first | refine on_nop ?_ | refine on_new ?_ | refine on_put ?_ | refine on_born ?_ | refine on_grow ?_)
    | (show putGo ..; refine put_box ?_)
    | (show wGo ..; first | refine gw_tt ?_ | refine gw_ff ?_ | refine gw_tf ?_ | refine gw_ft ?_ | refine gw_u ?_ | refine gw_tn (fun _ => ?_) (fun _ => ?_) | refine gw_fn (fun _ => ?_) (fun _ => ?_) | refine gw_tb (fun _ => ?_) (fun _ => ?_) | refine gw_fb (fun _ => ?_) (fun _ => ?_))
    | (show dr ..; first | refine dr_nil ?_ | refine dr_n rfl ?_ | refine dr_w' rfl rfl ?_)
    | (show drGo ..; first | refine dr_ev rfl ?_ | refine dr_call rfl ?_)
    | (show drOn ..; first | refine dn_nop ?_ | refine dn_new ?_ | refine dn_put ?_ | refine dn_born ?_ | refine dn_grow ?_)
    | (show dputGo ..; refine dput_box ?_)
    | (refine And.intro (by kernel_rfl : okAll _ = true) ?_)
    | (show pwCode ..; first | refine pc_seq ?_ | refine pc_region ?_ | refine pc_draw (by kernel_rfl) ?_ | refine pc_ret ?_ | refine pc_skip ?_ | refine pc_block ?_ | refine pc_exit ?_ | refine pc_cond ?_)
    | (show condGo ..; first | refine cd_t ?_ | refine cd_f ?_ | refine cd_n (fun _ => ?_) (fun _ => ?_) | refine cd_b (fun _ => ?_) (fun _ => ?_))
    | refine th_normal ?_
    | refine th_ret ?_
    | refine th_exit ?_
    | refine th_pan ?_
    | refine bl_normal ?_
    | refine bl_exit ?_
    | refine bl_pass rfl ?_
    | refine bl_ret ?_
    | refine bl_pan ?_
    | (show retQ ..; first | refine rt_ret ?_ | refine rt_normal ?_)
    | refine rs_some ?_)
      refine ⟨_, rfl, fz_bs szOb (by (try simp only [go_sem]); try rfl) (by rw [List.length_map]) (rows_len _) rfl (by simp only [go_sem])⟩
  | false =>
    rw [hh] at hat
    have hw : withoutL l id = l := by unfold withoutL; rw [if_neg (by rw [hh]; simp)]
    rw [hw]
    clear hh hw
    refine pureF (by kernel_rfl) (by simp only [go_sem, *]) Try.func113 Try.results113 rfl (by simp [Try.ntmps113]) (by kernel_rfl) ?_
    repeat' (first
    | (show pwOps ..; first | refine pops_nil ?_ | refine pops_n rfl ?_ | refine pops_w' rfl rfl ?_)
    | (show runGo ..; first | (refine run_bs rfl rfl ?_; first | refine on_new ?_ | (refine on_put ?_; refine put_box ?_)) | refine run_ev rfl rfl ?_ | refine run_call rfl ?_)
    | (show goOn ..; first | refine on_nop ?_ | refine on_new ?_ | refine on_put ?_ | refine on_born ?_ | refine on_grow ?_)
    | (show putGo ..; refine put_box ?_)
    | (show callGo ..; (refine call_pure (r := ?_) ?_ ?_; rotate_left 1; (focus first | exact hat)))
    | (show wGo ..; first | refine gw_tt ?_ | refine gw_ff ?_ | refine gw_tf ?_ | refine gw_ft ?_ | refine gw_u ?_ | refine gw_tn (fun _ => ?_) (fun _ => ?_) | refine gw_fn (fun _ => ?_) (fun _ => ?_) | refine gw_tb (fun _ => ?_) (fun _ => ?_) | refine gw_fb (fun _ => ?_) (fun _ => ?_))
    | (show dr ..; first | refine dr_nil ?_ | refine dr_n rfl ?_ | refine dr_w' rfl rfl ?_)
    | (show drGo ..; first | refine dr_ev rfl ?_ | refine dr_call rfl ?_)
    | (show drOn ..; first | refine dn_nop ?_ | refine dn_new ?_ | refine dn_put ?_ | refine dn_born ?_ | refine dn_grow ?_)
    | (show dputGo ..; refine dput_box ?_)
    | (show dcallGo ..; (refine dcall_pure (r := ?_) ?_ ?_; rotate_left 1; (focus first | exact hat)))
    | (refine And.intro (by kernel_rfl : okAll _ = true) ?_)
    | (show pwCode ..; first | refine pc_seq ?_ | refine pc_region ?_ | refine pc_draw (by kernel_rfl) ?_ | refine pc_ret ?_ | refine pc_skip ?_ | refine pc_block ?_ | refine pc_exit ?_ | refine pc_cond ?_)
    | (show condGo ..; first | refine cd_t ?_ | refine cd_f ?_ | refine cd_n (fun _ => ?_) (fun _ => ?_) | refine cd_b (fun _ => ?_) (fun _ => ?_))
    | refine th_normal ?_
    | refine th_ret ?_
    | refine th_exit ?_
    | refine th_pan ?_
    | refine bl_normal ?_
    | refine bl_exit ?_
    | refine bl_pass rfl ?_
    | refine bl_ret ?_
    | refine bl_pan ?_
    | (show retQ ..; first | refine rt_ret ?_ | refine rt_normal ?_)
    | refine rs_some ?_)
    exact fz_same (by simp only [go_sem])
def putW (w : Wd) (o : Ob) : Wd := if decide (((withL w.objects o).length : Int) ≤ 1024) = true then { w with objects := withL w.objects o } else w
def dropW (w : Wd) (id : Int) : Wd := { w with objects := withoutL w.objects id }
def findO (w : Wd) (id : Int) : Ob × Bool := if hitO w.objects id = true then ((w.objects[posO w.objects id]?).getD Ob.zero, true) else (Ob.zero, false)
theorem obj_find (w : Wd) (id : Int) (hl : w.objects.length ≤ 1000000) (hs : RisO w.objects) : Pure Try.prog 62 [.agg (Wd.enc w), .int .u64 id] (.tup [.agg (Ob.enc (findO w id).1), .bool (findO w id).2]) := by
  have hat := obj_at w.objects id hl hs
  cases hh : hitO w.objects id with
  | true =>
    rw [hh] at hat
    obtain ⟨y, hy, hyid, hk⟩ := hit_lt hh
    have hf : findO w id = (y, true) := by unfold findO; rw [if_pos hh, hy]; rfl
    rw [hf]
    clear hh hf
    refine pureI (by kernel_rfl) (by simp only [go_sem, *]) (by simp only [go_sem, *]) Try.func62 Try.results62 rfl (by simp [Try.ntmps62]) (by kernel_rfl) ?_
    repeat' (first
    | (show pwOps ..; first | refine pops_nil ?_ | refine pops_n rfl ?_ | refine pops_w' rfl rfl ?_)
    | (show runGo ..; first | refine run_ev rfl rfl ?_ | refine run_call rfl ?_)
    | (show goOn ..; first | refine on_nop ?_ | refine on_new ?_ | refine on_put ?_ | refine on_born ?_ | refine on_grow ?_)
    | (show putGo ..; refine put_box ?_)
    | (show callGo ..; (refine call_pure (r := ?_) ?_ ?_; rotate_left 1; (focus first | exact obj_objects _ | exact hat)))
    | (show wGo ..; first | refine gw_tt ?_ | refine gw_ff ?_ | refine gw_tf ?_ | refine gw_ft ?_ | refine gw_u ?_ | refine gw_tn (fun _ => ?_) (fun _ => ?_) | refine gw_fn (fun _ => ?_) (fun _ => ?_) | refine gw_tb (fun _ => ?_) (fun _ => ?_) | refine gw_fb (fun _ => ?_) (fun _ => ?_))
    | (show dr ..; first | refine dr_nil ?_ | refine dr_n rfl ?_ | refine dr_w' rfl rfl ?_)
    | (show drGo ..; first | refine dr_ev rfl ?_ | refine dr_call rfl ?_)
    | (show drOn ..; first | refine dn_nop ?_ | refine dn_new ?_ | refine dn_put ?_ | refine dn_born ?_ | refine dn_grow ?_)
    | (show dputGo ..; refine dput_box ?_)
    | (show dcallGo ..; (refine dcall_pure (r := ?_) ?_ ?_; rotate_left 1; (focus first | exact obj_objects _ | exact hat)))
    | (refine And.intro (by kernel_rfl : okAll _ = true) ?_)
    | (show pwCode ..; first | refine pc_seq ?_ | refine pc_region ?_ | refine pc_draw (by kernel_rfl) ?_ | refine pc_ret ?_ | refine pc_skip ?_ | refine pc_block ?_ | refine pc_exit ?_ | refine pc_cond ?_)
    | (show condGo ..; first | refine cd_t ?_ | refine cd_f ?_ | refine cd_n (fun _ => ?_) (fun _ => ?_) | refine cd_b (fun _ => ?_) (fun _ => ?_))
    | refine th_normal ?_
    | refine th_ret ?_
    | refine th_exit ?_
    | refine th_pan ?_
    | refine bl_normal ?_
    | refine bl_exit ?_
    | refine bl_pass rfl ?_
    | refine bl_ret ?_
    | refine bl_pan ?_
    | (show retQ ..; first | refine rt_ret ?_ | refine rt_normal ?_)
    | refine rs_some ?_)
    all_goals rfl
  | false =>
    rw [hh] at hat
    have hf : findO w id = (Ob.zero, false) := by unfold findO; rw [if_neg (by rw [hh]; simp)]
    rw [hf]
    clear hh hf
    refine pureI (by kernel_rfl) (by simp only [go_sem, *]) (by simp only [go_sem, *]) Try.func62 Try.results62 rfl (by simp [Try.ntmps62]) (by kernel_rfl) ?_
    repeat' (first
    | (show pwOps ..; first | refine pops_nil ?_ | refine pops_n rfl ?_ | refine pops_w' rfl rfl ?_)
    | (show runGo ..; first | refine run_ev rfl rfl ?_ | refine run_call rfl ?_)
    | (show goOn ..; first | refine on_nop ?_ | refine on_new ?_ | refine on_put ?_ | refine on_born ?_ | refine on_grow ?_)
    | (show putGo ..; refine put_box ?_)
    | (show callGo ..; (refine call_pure (r := ?_) ?_ ?_; rotate_left 1; (focus first | exact obj_objects _ | exact hat)))
    | (show wGo ..; first | refine gw_tt ?_ | refine gw_ff ?_ | refine gw_tf ?_ | refine gw_ft ?_ | refine gw_u ?_ | refine gw_tn (fun _ => ?_) (fun _ => ?_) | refine gw_fn (fun _ => ?_) (fun _ => ?_) | refine gw_tb (fun _ => ?_) (fun _ => ?_) | refine gw_fb (fun _ => ?_) (fun _ => ?_))
    | (show dr ..; first | refine dr_nil ?_ | refine dr_n rfl ?_ | refine dr_w' rfl rfl ?_)
    | (show drGo ..; first | refine dr_ev rfl ?_ | refine dr_call rfl ?_)
    | (show drOn ..; first | refine dn_nop ?_ | refine dn_new ?_ | refine dn_put ?_ | refine dn_born ?_ | refine dn_grow ?_)
    | (show dputGo ..; refine dput_box ?_)
    | (show dcallGo ..; (refine dcall_pure (r := ?_) ?_ ?_; rotate_left 1; (focus first | exact obj_objects _ | exact hat)))
    | (refine And.intro (by kernel_rfl : okAll _ = true) ?_)
    | (show pwCode ..; first | refine pc_seq ?_ | refine pc_region ?_ | refine pc_draw (by kernel_rfl) ?_ | refine pc_ret ?_ | refine pc_skip ?_ | refine pc_block ?_ | refine pc_exit ?_ | refine pc_cond ?_)
    | (show condGo ..; first | refine cd_t ?_ | refine cd_f ?_ | refine cd_n (fun _ => ?_) (fun _ => ?_) | refine cd_b (fun _ => ?_) (fun _ => ?_))
    | refine th_normal ?_
    | refine th_ret ?_
    | refine th_exit ?_
    | refine th_pan ?_
    | refine bl_normal ?_
    | refine bl_exit ?_
    | refine bl_pass rfl ?_
    | refine bl_ret ?_
    | refine bl_pan ?_
    | (show retQ ..; first | refine rt_ret ?_ | refine rt_normal ?_)
    | refine rs_some ?_)
    all_goals rfl
theorem obj_put (w : Wd) (o : Ob) (hl : w.objects.length ≤ 1000000) (hs : RisO w.objects) : Pure Try.prog 60 [.agg (Wd.enc w), .agg (Ob.enc o)] (.agg (Wd.enc (putW w o))) := by
  have hw := obj_with w.objects o hl hs
  refine pureI (by kernel_rfl) (by simp only [go_sem, *]) (by simp only [go_sem, *]) Try.func60 Try.results60 rfl (by simp [Try.ntmps60]) (by kernel_rfl) ?_
  repeat' (first
    | (show pwOps ..; first | refine pops_nil ?_ | refine pops_n rfl ?_ | refine pops_w' rfl rfl ?_)
    | (show runGo ..; first | refine run_ev rfl rfl ?_ | refine run_call rfl ?_)
    | (show goOn ..; first | refine on_nop ?_ | refine on_new ?_ | refine on_put ?_ | refine on_born ?_ | refine on_grow ?_)
    | (show putGo ..; refine put_box ?_)
    | (show callGo ..; (refine call_pure (r := ?_) ?_ ?_; rotate_left 1; (focus first | exact obj_objects _ | exact hw)))
    | (show wGo ..; first | refine gw_tt ?_ | refine gw_ff ?_ | refine gw_tf ?_ | refine gw_ft ?_ | refine gw_u ?_ | refine gw_tn (fun _ => ?_) (fun _ => ?_) | refine gw_fn (fun _ => ?_) (fun _ => ?_) | refine gw_tb (fun _ => ?_) (fun _ => ?_) | refine gw_fb (fun _ => ?_) (fun _ => ?_))
    | (show dr ..; first | refine dr_nil ?_ | refine dr_n rfl ?_ | refine dr_w' rfl rfl ?_)
    | (show drGo ..; first | refine dr_ev rfl ?_ | refine dr_call rfl ?_)
    | (show drOn ..; first | refine dn_nop ?_ | refine dn_new ?_ | refine dn_put ?_ | refine dn_born ?_ | refine dn_grow ?_)
    | (show dputGo ..; refine dput_box ?_)
    | (show dcallGo ..; (refine dcall_pure (r := ?_) ?_ ?_; rotate_left 1; (focus first | exact obj_objects _ | exact hw)))
    | (refine And.intro (by kernel_rfl : okAll _ = true) ?_)
    | (show pwCode ..; first | refine pc_seq ?_ | refine pc_region ?_ | refine pc_draw (by kernel_rfl) ?_ | refine pc_ret ?_ | refine pc_skip ?_ | refine pc_block ?_ | refine pc_exit ?_ | refine pc_cond ?_)
    | (show condGo ..; first | refine cd_t ?_ | refine cd_f ?_ | refine cd_n (fun _ => ?_) (fun _ => ?_) | refine cd_b (fun _ => ?_) (fun _ => ?_))
    | refine th_normal ?_
    | refine th_ret ?_
    | refine th_exit ?_
    | refine th_pan ?_
    | refine bl_normal ?_
    | refine bl_exit ?_
    | refine bl_pass rfl ?_
    | refine bl_ret ?_
    | refine bl_pan ?_
    | (show retQ ..; first | refine rt_ret ?_ | refine rt_normal ?_)
    | refine rs_some ?_)
  all_goals (rename_i hc; unfold putW; rw [hc]; rfl)
theorem obj_drop (w : Wd) (id : Int) (hl : w.objects.length ≤ 1000000) (hs : RisO w.objects) : Pure Try.prog 61 [.agg (Wd.enc w), .int .u64 id] (.agg (Wd.enc (dropW w id))) := by
  have hw := obj_without w.objects id hl hs
  refine pureI (by kernel_rfl) (by simp only [go_sem, *]) (by simp only [go_sem, *]) Try.func61 Try.results61 rfl (by simp [Try.ntmps61]) (by kernel_rfl) ?_
  repeat' (first
    | (show pwOps ..; first | refine pops_nil ?_ | refine pops_n rfl ?_ | refine pops_w' rfl rfl ?_)
    | (show runGo ..; first | refine run_ev rfl rfl ?_ | refine run_call rfl ?_)
    | (show goOn ..; first | refine on_nop ?_ | refine on_new ?_ | refine on_put ?_ | refine on_born ?_ | refine on_grow ?_)
    | (show putGo ..; refine put_box ?_)
    | (show callGo ..; (refine call_pure (r := ?_) ?_ ?_; rotate_left 1; (focus first | exact obj_objects _ | exact hw)))
    | (show wGo ..; first | refine gw_tt ?_ | refine gw_ff ?_ | refine gw_tf ?_ | refine gw_ft ?_ | refine gw_u ?_ | refine gw_tn (fun _ => ?_) (fun _ => ?_) | refine gw_fn (fun _ => ?_) (fun _ => ?_) | refine gw_tb (fun _ => ?_) (fun _ => ?_) | refine gw_fb (fun _ => ?_) (fun _ => ?_))
    | (show dr ..; first | refine dr_nil ?_ | refine dr_n rfl ?_ | refine dr_w' rfl rfl ?_)
    | (show drGo ..; first | refine dr_ev rfl ?_ | refine dr_call rfl ?_)
    | (show drOn ..; first | refine dn_nop ?_ | refine dn_new ?_ | refine dn_put ?_ | refine dn_born ?_ | refine dn_grow ?_)
    | (show dputGo ..; refine dput_box ?_)
    | (show dcallGo ..; (refine dcall_pure (r := ?_) ?_ ?_; rotate_left 1; (focus first | exact obj_objects _ | exact hw)))
    | (refine And.intro (by kernel_rfl : okAll _ = true) ?_)
    | (show pwCode ..; first | refine pc_seq ?_ | refine pc_region ?_ | refine pc_draw (by kernel_rfl) ?_ | refine pc_ret ?_ | refine pc_skip ?_ | refine pc_block ?_ | refine pc_exit ?_ | refine pc_cond ?_)
    | (show condGo ..; first | refine cd_t ?_ | refine cd_f ?_ | refine cd_n (fun _ => ?_) (fun _ => ?_) | refine cd_b (fun _ => ?_) (fun _ => ?_))
    | refine th_normal ?_
    | refine th_ret ?_
    | refine th_exit ?_
    | refine th_pan ?_
    | refine bl_normal ?_
    | refine bl_exit ?_
    | refine bl_pass rfl ?_
    | refine bl_ret ?_
    | refine bl_pan ?_
    | (show retQ ..; first | refine rt_ret ?_ | refine rt_normal ?_)
    | refine rs_some ?_)
  all_goals rfl
end Go.Proofs.Ytklpedooijlnlaa
end

section
namespace Go.Proofs.Ytklpedooijlnlaa
open Go Go.RowKit
set_option linter.unusedVariables false
set_option linter.unusedSimpArgs false
set_option maxHeartbeats 16000000
set_option maxRecDepth 100000
@[go_sem] theorem spl1_Wd_objects (w : Wd) (o : Ob) : splice (Wd.enc w) 3 [.sl [Ob.enc o]] = Wd.enc { w with objects := [o] } := spl_Wd_objects w [o]
attribute [local irreducible] pwOps dr pwCode Ex.then Ex.inBlock retQ okAll drawOk Pure CSat evOp calleeP rdOf upd hset strip sp0 cut envL heapL Again Keep BdL evBs AgainK KeepK
/-! The document's answers: found, put, dropped. -/
def findR (w : Wd) (id : Int) : Ob × Bool := match w.objects.find? (fun x => x.id == id) with
  | some x => (x, true)
  | none => (Ob.zero, false)
theorem r13_find (w : Wd) (id : Int) (hl : w.objects.length ≤ 1000000) : Pure Try.prog 63 [.agg (Wd.enc w), .int .u64 id] (.tup [.agg (Ob.enc (findR w id).1), .bool (findR w id).2]) := by
  refine pureI (by kernel_rfl) (by simp only [go_sem, *]) (by simp only [go_sem, *]) Try.func63 Try.results63 rfl (by simp [Try.ntmps63]) (by kernel_rfl) ?_
  repeat' (first
    | (show pwOps ..; first | refine pops_nil ?_ | refine pops_n rfl ?_ | refine pops_w' rfl rfl ?_)
    | (show runGo ..; first | refine run_ev rfl rfl ?_ | refine run_call rfl ?_)
    | (show goOn ..; first | refine on_nop ?_ | refine on_new ?_ | refine on_put ?_ | refine on_born ?_ | refine on_grow ?_)
    | (show putGo ..; refine put_box ?_)
    | (show wGo ..; first | refine gw_tt ?_ | refine gw_ff ?_ | refine gw_tf ?_ | refine gw_ft ?_ | refine gw_u ?_ | refine gw_tn (fun _ => ?_) (fun _ => ?_) | refine gw_fn (fun _ => ?_) (fun _ => ?_) | refine gw_tb (fun _ => ?_) (fun _ => ?_) | refine gw_fb (fun _ => ?_) (fun _ => ?_))
    | (show dr ..; first | refine dr_nil ?_ | refine dr_n rfl ?_ | refine dr_w' rfl rfl ?_)
    | (show drGo ..; first | refine dr_ev rfl ?_ | refine dr_call rfl ?_)
    | (show drOn ..; first | refine dn_nop ?_ | refine dn_new ?_ | refine dn_put ?_ | refine dn_born ?_ | refine dn_grow ?_)
    | (show dputGo ..; refine dput_box ?_)
    | (refine And.intro (by kernel_rfl : okAll _ = true) ?_)
    | (show pwCode ..; first | refine pc_seq ?_ | refine pc_region ?_ | refine pc_draw (by kernel_rfl) ?_ | refine pc_ret ?_ | refine pc_skip ?_ | refine pc_block ?_ | refine pc_exit ?_ | refine pc_cond ?_)
    | (show condGo ..; first | refine cd_t ?_ | refine cd_f ?_ | refine cd_n (fun _ => ?_) (fun _ => ?_) | refine cd_b (fun _ => ?_) (fun _ => ?_))
    | refine th_normal ?_
    | refine th_ret ?_
    | refine th_exit ?_
    | refine th_pan ?_
    | refine bl_normal ?_
    | refine bl_exit ?_
    | refine bl_pass rfl ?_
    | refine bl_ret ?_
    | refine bl_pan ?_
    | (show retQ ..; first | refine rt_ret ?_ | refine rt_normal ?_)
    | refine rs_some ?_)
  refine pc_loop (S := Nat) (fun n => w.objects.length - n) (fun n => n ≤ w.objects.length ∧ ∀ j, j < n → ∀ y, w.objects[j]? = some y → (y.id == id) = false) (fun n => [(1, .int .u64 id), (2, .ptr 0 0), (4, .ptr 1 0), (6, .int .i64 n)]) (fun _ => [(0, .box (Wd.enc w)), (1, .box (Ob.enc Ob.zero))]) (fun _ => 2) 0 ⟨Nat.zero_le _, fun j hj => absurd hj (Nat.not_lt_zero j)⟩ (by (refine keepI ?_ ?_ <;> repeat' (first | exact ke_nil | exact kg_nil | refine ke_cons (by (try simp only [go_sem, *]); try rfl) (by simp only [go_sem, *]) ?_ | refine kg_box (by (try simp only [go_sem, *]); try rfl) (by omega) (by simp only [go_sem, *]) ?_ | refine kg_row (by (try simp only [go_sem, *]); try rfl) (by omega) (by simp only [go_sem, *]) ?_))) ?_
  rintro n ⟨hn, hs⟩
  rcases Nat.lt_or_ge n w.objects.length with hlt | hge
  · obtain ⟨x, hx⟩ := lt_len hlt
    have h0 := lt_true hlt
    have h4 := wrap_nat n (by omega)
    repeat' (first
    | (show pwOps ..; first | refine pops_nil ?_ | refine pops_n rfl ?_ | refine pops_w' rfl rfl ?_)
    | (show runGo ..; first | refine run_ev rfl rfl ?_ | refine run_call rfl ?_)
    | (show goOn ..; first | refine on_nop ?_ | refine on_new ?_ | refine on_put ?_ | refine on_born ?_ | refine on_grow ?_)
    | (show putGo ..; refine put_box ?_)
    | (show wGo ..; first | refine gw_tt ?_ | refine gw_ff ?_ | refine gw_tf ?_ | refine gw_ft ?_ | refine gw_u ?_ | refine gw_tn (fun _ => ?_) (fun _ => ?_) | refine gw_fn (fun _ => ?_) (fun _ => ?_) | refine gw_tb (fun _ => ?_) (fun _ => ?_) | refine gw_fb (fun _ => ?_) (fun _ => ?_))
    | (show dr ..; first | refine dr_nil ?_ | refine dr_n rfl ?_ | refine dr_w' rfl rfl ?_)
    | (show drGo ..; first | refine dr_ev rfl ?_ | refine dr_call rfl ?_)
    | (show drOn ..; first | refine dn_nop ?_ | refine dn_new ?_ | refine dn_put ?_ | refine dn_born ?_ | refine dn_grow ?_)
    | (show dputGo ..; refine dput_box ?_)
    | (refine And.intro (by kernel_rfl : okAll _ = true) ?_)
    | (show pwCode ..; first | refine pc_seq ?_ | refine pc_region ?_ | refine pc_draw (by kernel_rfl) ?_ | refine pc_ret ?_ | refine pc_skip ?_ | refine pc_block ?_ | refine pc_exit ?_ | refine pc_cond ?_)
    | (show condGo ..; first | refine cd_t ?_ | refine cd_f ?_ | refine cd_n (fun _ => ?_) (fun _ => ?_) | refine cd_b (fun _ => ?_) (fun _ => ?_))
    | refine th_normal ?_
    | refine th_ret ?_
    | refine th_exit ?_
    | refine th_pan ?_
    | refine bl_normal ?_
    | refine bl_exit ?_
    | refine bl_pass rfl ?_
    | refine bl_ret ?_
    | refine bl_pan ?_
    | (show retQ ..; first | refine rt_ret ?_ | refine rt_normal ?_)
    | refine rs_some ?_)
    all_goals rename_i hc
    · have := find_at (p := fun p : Ob => p.id == id) hx hc hs
      unfold findR; rw [this]
    · exact again (n + 1) ⟨by omega, none_to hx hs hc⟩ (by omega) (by (refine keepI ?_ ?_ <;> repeat' (first | exact ke_nil | exact kg_nil | refine ke_cons (by (try simp only [go_sem, *]); try rfl) (by simp only [go_sem, *]) ?_ | refine kg_box (by (try simp only [go_sem, *]); try rfl) (by omega) (by simp only [go_sem, *]) ?_ | refine kg_row (by (try simp only [go_sem, *]); try rfl) (by omega) (by simp only [go_sem, *]) ?_)))
  · have h0 := lt_false hge
    have := find_none (p := fun p : Ob => p.id == id) hge hs
    repeat' (first
    | (show pwOps ..; first | refine pops_nil ?_ | refine pops_n rfl ?_ | refine pops_w' rfl rfl ?_)
    | (show runGo ..; first | refine run_ev rfl rfl ?_ | refine run_call rfl ?_)
    | (show goOn ..; first | refine on_nop ?_ | refine on_new ?_ | refine on_put ?_ | refine on_born ?_ | refine on_grow ?_)
    | (show putGo ..; refine put_box ?_)
    | (show wGo ..; first | refine gw_tt ?_ | refine gw_ff ?_ | refine gw_tf ?_ | refine gw_ft ?_ | refine gw_u ?_ | refine gw_tn (fun _ => ?_) (fun _ => ?_) | refine gw_fn (fun _ => ?_) (fun _ => ?_) | refine gw_tb (fun _ => ?_) (fun _ => ?_) | refine gw_fb (fun _ => ?_) (fun _ => ?_))
    | (show dr ..; first | refine dr_nil ?_ | refine dr_n rfl ?_ | refine dr_w' rfl rfl ?_)
    | (show drGo ..; first | refine dr_ev rfl ?_ | refine dr_call rfl ?_)
    | (show drOn ..; first | refine dn_nop ?_ | refine dn_new ?_ | refine dn_put ?_ | refine dn_born ?_ | refine dn_grow ?_)
    | (show dputGo ..; refine dput_box ?_)
    | (refine And.intro (by kernel_rfl : okAll _ = true) ?_)
    | (show pwCode ..; first | refine pc_seq ?_ | refine pc_region ?_ | refine pc_draw (by kernel_rfl) ?_ | refine pc_ret ?_ | refine pc_skip ?_ | refine pc_block ?_ | refine pc_exit ?_ | refine pc_cond ?_)
    | (show condGo ..; first | refine cd_t ?_ | refine cd_f ?_ | refine cd_n (fun _ => ?_) (fun _ => ?_) | refine cd_b (fun _ => ?_) (fun _ => ?_))
    | refine th_normal ?_
    | refine th_ret ?_
    | refine th_exit ?_
    | refine th_pan ?_
    | refine bl_normal ?_
    | refine bl_exit ?_
    | refine bl_pass rfl ?_
    | refine bl_ret ?_
    | refine bl_pan ?_
    | (show retQ ..; first | refine rt_ret ?_ | refine rt_normal ?_)
    | refine rs_some ?_)
    unfold findR; rw [this]
def dropR (w : Wd) (id : Int) : Wd := { w with objects := w.objects.filter (fun x => !(x.id == id)) }
theorem filt_yes {α : Type} {p : α → Bool} {l : List α} {n : Nat} {x : α} (hx : l[n]? = some x) (h : p x = true) : (l.take (n + 1)).filter p = (l.take n).filter p ++ [x] := by
  rw [take_snoc hx, List.filter_append, List.filter_cons, if_pos h, List.filter_nil]
theorem filt_no {α : Type} {p : α → Bool} {l : List α} {n : Nat} {x : α} (hx : l[n]? = some x) (h : p x = false) : (l.take (n + 1)).filter p = (l.take n).filter p := by
  rw [take_snoc hx, List.filter_append, List.filter_cons, if_neg (by rw [h]; simp), List.filter_nil, List.append_nil]
theorem r13_drop (w : Wd) (id : Int) (hl : w.objects.length ≤ 100000) : Pure Try.prog 65 [.agg (Wd.enc w), .int .u64 id] (.agg (Wd.enc (dropR w id))) := by
  refine pureI (by kernel_rfl) (by simp only [go_sem, *]) (by simp only [go_sem, *]) Try.func65 Try.results65 rfl (by simp [Try.ntmps65]) (by kernel_rfl) ?_
  repeat' (first
    | (show pwOps ..; first | refine pops_nil ?_ | refine pops_n rfl ?_ | refine pops_w' rfl rfl ?_)
    | (show runGo ..; first | refine run_ev rfl rfl ?_ | refine run_call rfl ?_)
    | (show goOn ..; first | refine on_nop ?_ | refine on_new ?_ | refine on_put ?_ | refine on_born ?_ | refine on_grow ?_)
    | (show putGo ..; refine put_box ?_)
    | (show wGo ..; first | refine gw_tt ?_ | refine gw_ff ?_ | refine gw_tf ?_ | refine gw_ft ?_ | refine gw_u ?_ | refine gw_tn (fun _ => ?_) (fun _ => ?_) | refine gw_fn (fun _ => ?_) (fun _ => ?_) | refine gw_tb (fun _ => ?_) (fun _ => ?_) | refine gw_fb (fun _ => ?_) (fun _ => ?_))
    | (show dr ..; first | refine dr_nil ?_ | refine dr_n rfl ?_ | refine dr_w' rfl rfl ?_)
    | (show drGo ..; first | refine dr_ev rfl ?_ | refine dr_call rfl ?_)
    | (show drOn ..; first | refine dn_nop ?_ | refine dn_new ?_ | refine dn_put ?_ | refine dn_born ?_ | refine dn_grow ?_)
    | (show dputGo ..; refine dput_box ?_)
    | (refine And.intro (by kernel_rfl : okAll _ = true) ?_)
    | (show pwCode ..; first | refine pc_seq ?_ | refine pc_region ?_ | refine pc_draw (by kernel_rfl) ?_ | refine pc_ret ?_ | refine pc_skip ?_ | refine pc_block ?_ | refine pc_exit ?_ | refine pc_cond ?_)
    | (show condGo ..; first | refine cd_t ?_ | refine cd_f ?_ | refine cd_n (fun _ => ?_) (fun _ => ?_) | refine cd_b (fun _ => ?_) (fun _ => ?_))
    | refine th_normal ?_
    | refine th_ret ?_
    | refine th_exit ?_
    | refine th_pan ?_
    | refine bl_normal ?_
    | refine bl_exit ?_
    | refine bl_pass rfl ?_
    | refine bl_ret ?_
    | refine bl_pan ?_
    | (show retQ ..; first | refine rt_ret ?_ | refine rt_normal ?_)
    | refine rs_some ?_)
  refine pc_loop (S := Nat × List Ob × Nat) (fun s => w.objects.length - s.1) (fun s => s.1 ≤ w.objects.length ∧ 2 ≤ s.2.2 ∧ (w.objects.take s.1).filter (fun x => !(x.id == id)) = s.2.1) (fun s => [(1, .int .u64 id), (2, .ptr 0 0), (4, .ptr 1 0), (5, accV s.2.2 s.2.1), (6, .int .i64 s.1)]) (fun s => (0, .box (Wd.enc w)) :: (1, .box (Wd.enc Wd.zero)) :: accG s.2.2 40 51 Ob.enc s.2.1) (fun s => accM 2 s.2.2 s.2.1) (0, [], 2) ⟨Nat.zero_le _, Nat.le_refl _, rfl⟩ (by simp only [accV_nil, accG_nil, accM_nil]; (refine keepI ?_ ?_ <;> repeat' (first | exact ke_nil | exact kg_nil | refine ke_cons (by (try simp only [go_sem, *]); try rfl) (by simp only [go_sem, *]) ?_ | refine kg_box (by (try simp only [go_sem, *]); try rfl) (by omega) (by simp only [go_sem, *]) ?_ | refine kg_row (by (try simp only [go_sem, *]); try rfl) (by omega) (by simp only [go_sem, *]) ?_))) ?_
  rintro ⟨n, acc, k⟩ ⟨hn, hk, hs⟩
  simp only at hn hk hs
  have ha : acc.length < 1000000 := by rw [← hs]; have := List.length_filter_le (fun x : Ob => !(x.id == id)) (w.objects.take n); have := List.length_take_le n w.objects; simp only [List.length_take] at *; omega
  have hb1 := app_max ha
  have hb2 := app_by (b := 632) ha (by decide)
  have hk0 : (k = 0) = False := eq_false (by omega)
  have hk1 : (k = 1) = False := eq_false (by omega)
  have hj0 : (0 = k) = False := eq_false (by omega)
  have hj1 : (1 = k) = False := eq_false (by omega)
  rcases Nat.lt_or_ge n w.objects.length with hlt | hge
  · obtain ⟨x, hx⟩ := lt_len hlt
    have h0 := lt_true hlt
    have h4 := wrap_nat n (by omega)
    cases hc : (x.id == id) with
    | false =>
      have e := filt_yes (p := fun x : Ob => !(x.id == id)) hx (by simp only [hc]; rfl)
      rcases or_nil acc with hnil | hne
      · subst hnil
        simp only [accV_nil, accG_nil, accM_nil]
        repeat' (first
    | (show pwOps ..; first | refine pops_nil ?_ | refine pops_n rfl ?_ | refine pops_w' rfl rfl ?_)
    | (show runGo ..; first | refine run_ev rfl rfl ?_ | refine run_call rfl ?_)
    | (show goOn ..; first | refine on_nop ?_ | refine on_new ?_ | refine on_put ?_ | refine on_born ?_ | refine on_grow ?_)
    | (show putGo ..; refine put_box ?_)
    | (show wGo ..; first | refine gw_tt ?_ | refine gw_ff ?_ | refine gw_tf ?_ | refine gw_ft ?_ | refine gw_u ?_ | refine gw_tn (fun _ => ?_) (fun _ => ?_) | refine gw_fn (fun _ => ?_) (fun _ => ?_) | refine gw_tb (fun _ => ?_) (fun _ => ?_) | refine gw_fb (fun _ => ?_) (fun _ => ?_))
    | (show dr ..; first | refine dr_nil ?_ | refine dr_n rfl ?_ | refine dr_w' rfl rfl ?_)
    | (show drGo ..; first | refine dr_ev rfl ?_ | refine dr_call rfl ?_)
    | (show drOn ..; first | refine dn_nop ?_ | refine dn_new ?_ | refine dn_put ?_ | refine dn_born ?_ | refine dn_grow ?_)
    | (show dputGo ..; refine dput_box ?_)
    | (refine And.intro (by kernel_rfl : okAll _ = true) ?_)
    | (show pwCode ..; first | refine pc_seq ?_ | refine pc_region ?_ | refine pc_draw (by kernel_rfl) ?_ | refine pc_ret ?_ | refine pc_skip ?_ | refine pc_block ?_ | refine pc_exit ?_ | refine pc_cond ?_)
    | (show condGo ..; first | refine cd_t ?_ | refine cd_f ?_ | refine cd_n (fun _ => ?_) (fun _ => ?_) | refine cd_b (fun _ => ?_) (fun _ => ?_))
    | refine th_normal ?_
    | refine th_ret ?_
    | refine th_exit ?_
    | refine th_pan ?_
    | refine bl_normal ?_
    | refine bl_exit ?_
    | refine bl_pass rfl ?_
    | refine bl_ret ?_
    | refine bl_pan ?_
    | (show retQ ..; first | refine rt_ret ?_ | refine rt_normal ?_)
    | refine rs_some ?_)
        refine again (n + 1, [] ++ [x], 2) ⟨hlt, by simp only; omega, by rw [e, hs]⟩ (by simp only; omega) ?_
        simp only [accV_snoc, accG_snoc, accM_snoc]
        (refine keepI ?_ ?_ <;> repeat' (first | exact ke_nil | exact kg_nil | refine ke_cons (by (try simp only [go_sem, *]); try rfl) (by simp only [go_sem, *]) ?_ | refine kg_box (by (try simp only [go_sem, *]); try rfl) (by omega) (by simp only [go_sem, *]) ?_ | refine kg_row (by (try simp only [go_sem, *]); try rfl) (by omega) (by simp only [go_sem, *]) ?_))
      · simp only [accV_ne hne, accG_ne hne, accM_ne hne]
        repeat' (first
    | (show pwOps ..; first | refine pops_nil ?_ | refine pops_n rfl ?_ | refine pops_w' rfl rfl ?_)
    | (show runGo ..; first | refine run_ev rfl rfl ?_ | refine run_call rfl ?_)
    | (show goOn ..; first | refine on_nop ?_ | refine on_new ?_ | refine on_put ?_ | refine on_born ?_ | refine on_grow ?_)
    | (show putGo ..; refine put_box ?_)
    | (show wGo ..; first | refine gw_tt ?_ | refine gw_ff ?_ | refine gw_tf ?_ | refine gw_ft ?_ | refine gw_u ?_ | refine gw_tn (fun _ => ?_) (fun _ => ?_) | refine gw_fn (fun _ => ?_) (fun _ => ?_) | refine gw_tb (fun _ => ?_) (fun _ => ?_) | refine gw_fb (fun _ => ?_) (fun _ => ?_))
    | (show dr ..; first | refine dr_nil ?_ | refine dr_n rfl ?_ | refine dr_w' rfl rfl ?_)
    | (show drGo ..; first | refine dr_ev rfl ?_ | refine dr_call rfl ?_)
    | (show drOn ..; first | refine dn_nop ?_ | refine dn_new ?_ | refine dn_put ?_ | refine dn_born ?_ | refine dn_grow ?_)
    | (show dputGo ..; refine dput_box ?_)
    | (refine And.intro (by kernel_rfl : okAll _ = true) ?_)
    | (show pwCode ..; first | refine pc_seq ?_ | refine pc_region ?_ | refine pc_draw (by kernel_rfl) ?_ | refine pc_ret ?_ | refine pc_skip ?_ | refine pc_block ?_ | refine pc_exit ?_ | refine pc_cond ?_)
    | (show condGo ..; first | refine cd_t ?_ | refine cd_f ?_ | refine cd_n (fun _ => ?_) (fun _ => ?_) | refine cd_b (fun _ => ?_) (fun _ => ?_))
    | refine th_normal ?_
    | refine th_ret ?_
    | refine th_exit ?_
    | refine th_pan ?_
    | refine bl_normal ?_
    | refine bl_exit ?_
    | refine bl_pass rfl ?_
    | refine bl_ret ?_
    | refine bl_pan ?_
    | (show retQ ..; first | refine rt_ret ?_ | refine rt_normal ?_)
    | refine rs_some ?_)
        refine again (n + 1, acc ++ [x], k) ⟨hlt, hk, by rw [e, hs]⟩ (by simp only; omega) ?_
        simp only [accV_snoc, accG_snoc, accM_snoc]
        (refine keepI ?_ ?_ <;> repeat' (first | exact ke_nil | exact kg_nil | refine ke_cons (by (try simp only [go_sem, *]); try rfl) (by simp only [go_sem, *]) ?_ | refine kg_box (by (try simp only [go_sem, *]); try rfl) (by omega) (by simp only [go_sem, *]) ?_ | refine kg_row (by (try simp only [go_sem, *]); try rfl) (by omega) (by simp only [go_sem, *]) ?_))
    | true =>
      have e := filt_no (p := fun x : Ob => !(x.id == id)) hx (by simp only [hc]; rfl)
      rcases or_nil acc with hnil | hne
      · subst hnil
        simp only [accV_nil, accG_nil, accM_nil]
        repeat' (first
    | (show pwOps ..; first | refine pops_nil ?_ | refine pops_n rfl ?_ | refine pops_w' rfl rfl ?_)
    | (show runGo ..; first | refine run_ev rfl rfl ?_ | refine run_call rfl ?_)
    | (show goOn ..; first | refine on_nop ?_ | refine on_new ?_ | refine on_put ?_ | refine on_born ?_ | refine on_grow ?_)
    | (show putGo ..; refine put_box ?_)
    | (show wGo ..; first | refine gw_tt ?_ | refine gw_ff ?_ | refine gw_tf ?_ | refine gw_ft ?_ | refine gw_u ?_ | refine gw_tn (fun _ => ?_) (fun _ => ?_) | refine gw_fn (fun _ => ?_) (fun _ => ?_) | refine gw_tb (fun _ => ?_) (fun _ => ?_) | refine gw_fb (fun _ => ?_) (fun _ => ?_))
    | (show dr ..; first | refine dr_nil ?_ | refine dr_n rfl ?_ | refine dr_w' rfl rfl ?_)
    | (show drGo ..; first | refine dr_ev rfl ?_ | refine dr_call rfl ?_)
    | (show drOn ..; first | refine dn_nop ?_ | refine dn_new ?_ | refine dn_put ?_ | refine dn_born ?_ | refine dn_grow ?_)
    | (show dputGo ..; refine dput_box ?_)
    | (refine And.intro (by kernel_rfl : okAll _ = true) ?_)
    | (show pwCode ..; first | refine pc_seq ?_ | refine pc_region ?_ | refine pc_draw (by kernel_rfl) ?_ | refine pc_ret ?_ | refine pc_skip ?_ | refine pc_block ?_ | refine pc_exit ?_ | refine pc_cond ?_)
    | (show condGo ..; first | refine cd_t ?_ | refine cd_f ?_ | refine cd_n (fun _ => ?_) (fun _ => ?_) | refine cd_b (fun _ => ?_) (fun _ => ?_))
    | refine th_normal ?_
    | refine th_ret ?_
    | refine th_exit ?_
    | refine th_pan ?_
    | refine bl_normal ?_
    | refine bl_exit ?_
    | refine bl_pass rfl ?_
    | refine bl_ret ?_
    | refine bl_pan ?_
    | (show retQ ..; first | refine rt_ret ?_ | refine rt_normal ?_)
    | refine rs_some ?_)
        refine again (n + 1, [], 2) ⟨hlt, Nat.le_refl _, by rw [e, hs]⟩ (by simp only; omega) ?_
        simp only [accV_nil, accG_nil, accM_nil]
        (refine keepI ?_ ?_ <;> repeat' (first | exact ke_nil | exact kg_nil | refine ke_cons (by (try simp only [go_sem, *]); try rfl) (by simp only [go_sem, *]) ?_ | refine kg_box (by (try simp only [go_sem, *]); try rfl) (by omega) (by simp only [go_sem, *]) ?_ | refine kg_row (by (try simp only [go_sem, *]); try rfl) (by omega) (by simp only [go_sem, *]) ?_))
      · simp only [accV_ne hne, accG_ne hne, accM_ne hne]
        repeat' (first
    | (show pwOps ..; first | refine pops_nil ?_ | refine pops_n rfl ?_ | refine pops_w' rfl rfl ?_)
    | (show runGo ..; first | refine run_ev rfl rfl ?_ | refine run_call rfl ?_)
    | (show goOn ..; first | refine on_nop ?_ | refine on_new ?_ | refine on_put ?_ | refine on_born ?_ | refine on_grow ?_)
    | (show putGo ..; refine put_box ?_)
    | (show wGo ..; first | refine gw_tt ?_ | refine gw_ff ?_ | refine gw_tf ?_ | refine gw_ft ?_ | refine gw_u ?_ | refine gw_tn (fun _ => ?_) (fun _ => ?_) | refine gw_fn (fun _ => ?_) (fun _ => ?_) | refine gw_tb (fun _ => ?_) (fun _ => ?_) | refine gw_fb (fun _ => ?_) (fun _ => ?_))
    | (show dr ..; first | refine dr_nil ?_ | refine dr_n rfl ?_ | refine dr_w' rfl rfl ?_)
    | (show drGo ..; first | refine dr_ev rfl ?_ | refine dr_call rfl ?_)
    | (show drOn ..; first | refine dn_nop ?_ | refine dn_new ?_ | refine dn_put ?_ | refine dn_born ?_ | refine dn_grow ?_)
    | (show dputGo ..; refine dput_box ?_)
    | (refine And.intro (by kernel_rfl : okAll _ = true) ?_)
    | (show pwCode ..; first | refine pc_seq ?_ | refine pc_region ?_ | refine pc_draw (by kernel_rfl) ?_ | refine pc_ret ?_ | refine pc_skip ?_ | refine pc_block ?_ | refine pc_exit ?_ | refine pc_cond ?_)
    | (show condGo ..; first | refine cd_t ?_ | refine cd_f ?_ | refine cd_n (fun _ => ?_) (fun _ => ?_) | refine cd_b (fun _ => ?_) (fun _ => ?_))
    | refine th_normal ?_
    | refine th_ret ?_
    | refine th_exit ?_
    | refine th_pan ?_
    | refine bl_normal ?_
    | refine bl_exit ?_
    | refine bl_pass rfl ?_
    | refine bl_ret ?_
    | refine bl_pan ?_
    | (show retQ ..; first | refine rt_ret ?_ | refine rt_normal ?_)
    | refine rs_some ?_)
        refine again (n + 1, acc, k) ⟨hlt, hk, by rw [e, hs]⟩ (by simp only; omega) ?_
        simp only [accV_ne hne, accG_ne hne, accM_ne hne]
        (refine keepI ?_ ?_ <;> repeat' (first | exact ke_nil | exact kg_nil | refine ke_cons (by (try simp only [go_sem, *]); try rfl) (by simp only [go_sem, *]) ?_ | refine kg_box (by (try simp only [go_sem, *]); try rfl) (by omega) (by simp only [go_sem, *]) ?_ | refine kg_row (by (try simp only [go_sem, *]); try rfl) (by omega) (by simp only [go_sem, *]) ?_))
  · have h0 := lt_false hge
    have hs' : w.objects.filter (fun x => !(x.id == id)) = acc := by rw [← hs, List.take_of_length_le hge]
    have hd : dropR w id = { w with objects := acc } := by unfold dropR; rw [hs']
    rw [hd]
    clear hd
    rcases or_nil acc with hnil | hne
    · subst hnil
      simp only [accV_nil, accG_nil, accM_nil]
      repeat' (first
    | (show pwOps ..; first | refine pops_nil ?_ | refine pops_n rfl ?_ | refine pops_w' rfl rfl ?_)
    | (show runGo ..; first | refine run_ev rfl rfl ?_ | refine run_call rfl ?_)
    | (show goOn ..; first | refine on_nop ?_ | refine on_new ?_ | refine on_put ?_ | refine on_born ?_ | refine on_grow ?_)
    | (show putGo ..; refine put_box ?_)
    | (show wGo ..; first | refine gw_tt ?_ | refine gw_ff ?_ | refine gw_tf ?_ | refine gw_ft ?_ | refine gw_u ?_ | refine gw_tn (fun _ => ?_) (fun _ => ?_) | refine gw_fn (fun _ => ?_) (fun _ => ?_) | refine gw_tb (fun _ => ?_) (fun _ => ?_) | refine gw_fb (fun _ => ?_) (fun _ => ?_))
    | (show dr ..; first | refine dr_nil ?_ | refine dr_n rfl ?_ | refine dr_w' rfl rfl ?_)
    | (show drGo ..; first | refine dr_ev rfl ?_ | refine dr_call rfl ?_)
    | (show drOn ..; first | refine dn_nop ?_ | refine dn_new ?_ | refine dn_put ?_ | refine dn_born ?_ | refine dn_grow ?_)
    | (show dputGo ..; refine dput_box ?_)
    | (refine And.intro (by kernel_rfl : okAll _ = true) ?_)
    | (show pwCode ..; first | refine pc_seq ?_ | refine pc_region ?_ | refine pc_draw (by kernel_rfl) ?_ | refine pc_ret ?_ | refine pc_skip ?_ | refine pc_block ?_ | refine pc_exit ?_ | refine pc_cond ?_)
    | (show condGo ..; first | refine cd_t ?_ | refine cd_f ?_ | refine cd_n (fun _ => ?_) (fun _ => ?_) | refine cd_b (fun _ => ?_) (fun _ => ?_))
    | refine th_normal ?_
    | refine th_ret ?_
    | refine th_exit ?_
    | refine th_pan ?_
    | refine bl_normal ?_
    | refine bl_exit ?_
    | refine bl_pass rfl ?_
    | refine bl_ret ?_
    | refine bl_pan ?_
    | (show retQ ..; first | refine rt_ret ?_ | refine rt_normal ?_)
    | refine rs_some ?_)
      all_goals rfl
    · simp only [accV_ne hne, accG_ne hne, accM_ne hne]
      repeat' (first
    | (show pwOps ..; first | refine pops_nil ?_ | refine pops_n rfl ?_ | refine pops_w' rfl rfl ?_)
    | (show runGo ..; first | refine run_ev rfl rfl ?_ | refine run_call rfl ?_)
    | (show goOn ..; first | refine on_nop ?_ | refine on_new ?_ | refine on_put ?_ | refine on_born ?_ | refine on_grow ?_)
    | (show putGo ..; refine put_box ?_)
    | (show wGo ..; first | refine gw_tt ?_ | refine gw_ff ?_ | refine gw_tf ?_ | refine gw_ft ?_ | refine gw_u ?_ | refine gw_tn (fun _ => ?_) (fun _ => ?_) | refine gw_fn (fun _ => ?_) (fun _ => ?_) | refine gw_tb (fun _ => ?_) (fun _ => ?_) | refine gw_fb (fun _ => ?_) (fun _ => ?_))
    | (show dr ..; first | refine dr_nil ?_ | refine dr_n rfl ?_ | refine dr_w' rfl rfl ?_)
    | (show drGo ..; first | refine dr_ev rfl ?_ | refine dr_call rfl ?_)
    | (show drOn ..; first | refine dn_nop ?_ | refine dn_new ?_ | refine dn_put ?_ | refine dn_born ?_ | refine dn_grow ?_)
    | (show dputGo ..; refine dput_box ?_)
    | (refine And.intro (by kernel_rfl : okAll _ = true) ?_)
    | (show pwCode ..; first | refine pc_seq ?_ | refine pc_region ?_ | refine pc_draw (by kernel_rfl) ?_ | refine pc_ret ?_ | refine pc_skip ?_ | refine pc_block ?_ | refine pc_exit ?_ | refine pc_cond ?_)
    | (show condGo ..; first | refine cd_t ?_ | refine cd_f ?_ | refine cd_n (fun _ => ?_) (fun _ => ?_) | refine cd_b (fun _ => ?_) (fun _ => ?_))
    | refine th_normal ?_
    | refine th_ret ?_
    | refine th_exit ?_
    | refine th_pan ?_
    | refine bl_normal ?_
    | refine bl_exit ?_
    | refine bl_pass rfl ?_
    | refine bl_ret ?_
    | refine bl_pan ?_
    | (show retQ ..; first | refine rt_ret ?_ | refine rt_normal ?_)
    | refine rs_some ?_)
      all_goals rfl
def stpR (o : Ob) (s : List Ob × Bool) (x : Ob) : List Ob × Bool :=
  let s1 := if (!s.2 && decide (x.id ≥ o.id)) = true then (s.1 ++ [o], true) else s
  if (x.id == o.id) = true then s1 else (s1.1 ++ [x], s1.2)
def putL (l : List Ob) (o : Ob) : List Ob := let s := l.foldl (stpR o) ([], false); if s.2 = true then s.1 else s.1 ++ [o]
def putR (w : Wd) (o : Ob) : Wd := if decide (((putL w.objects o).length : Int) > 1024) = true then w else { w with objects := putL w.objects o }
theorem stp_len (o : Ob) : ∀ (l : List Ob) (s : List Ob × Bool), (l.foldl (stpR o) s).1.length ≤ s.1.length + 2 * l.length
  | [], s => Nat.le_refl _
  | x :: l, s => by
    rw [List.foldl_cons]
    have := stp_len o l (stpR o s x)
    have h : (stpR o s x).1.length ≤ s.1.length + 2 := by unfold stpR; simp only; split <;> split <;> (try simp only [List.length_append, List.length_cons, List.length_nil]) <;> omega
    rw [List.length_cons]; omega
theorem stp_snoc {o : Ob} {l : List Ob} {n : Nat} {x : Ob} (hx : l[n]? = some x) (s : List Ob × Bool) : (l.take (n + 1)).foldl (stpR o) s = stpR o ((l.take n).foldl (stpR o) s) x := by rw [take_snoc hx, List.foldl_append]; rfl
theorem stp_eq {o : Ob} {s : List Ob × Bool} {x : Ob} {acc : List Ob} {d b c : Bool} (hs : s = (acc, d)) (hb : decide (x.id ≥ o.id) = b) (hc : (x.id == o.id) = c) :
    stpR o s x = (if (!d && b) = true then (if c = true then (acc ++ [o], true) else (acc ++ [o] ++ [x], true)) else (if c = true then (acc, d) else (acc ++ [x], d))) := by
  subst hs; unfold stpR; simp only [hb, hc]; clear hb hc; cases c <;> cases d <;> cases b <;> rfl
theorem r13_put (w : Wd) (o : Ob) (hl : w.objects.length ≤ 100000) : Pure Try.prog 64 [.agg (Wd.enc w), .agg (Ob.enc o)] (.agg (Wd.enc (putR w o))) := by
  refine pureI (by kernel_rfl) (by simp only [go_sem, *]) (by simp only [go_sem, *]) Try.func64 Try.results64 rfl (by simp [Try.ntmps64]) (by kernel_rfl) ?_
  repeat' (first
    | (show pwOps ..; first | refine pops_nil ?_ | refine pops_n rfl ?_ | refine pops_w' rfl rfl ?_)
    | (show runGo ..; first | refine run_ev rfl rfl ?_ | refine run_call rfl ?_)
    | (show goOn ..; first | refine on_nop ?_ | refine on_new ?_ | refine on_put ?_ | refine on_born ?_ | refine on_grow ?_)
    | (show putGo ..; refine put_box ?_)
    | (show wGo ..; first | refine gw_tt ?_ | refine gw_ff ?_ | refine gw_tf ?_ | refine gw_ft ?_ | refine gw_u ?_ | refine gw_tn (fun _ => ?_) (fun _ => ?_) | refine gw_fn (fun _ => ?_) (fun _ => ?_) | refine gw_tb (fun _ => ?_) (fun _ => ?_) | refine gw_fb (fun _ => ?_) (fun _ => ?_))
    | (show dr ..; first | refine dr_nil ?_ | refine dr_n rfl ?_ | refine dr_w' rfl rfl ?_)
    | (show drGo ..; first | refine dr_ev rfl ?_ | refine dr_call rfl ?_)
    | (show drOn ..; first | refine dn_nop ?_ | refine dn_new ?_ | refine dn_put ?_ | refine dn_born ?_ | refine dn_grow ?_)
    | (show dputGo ..; refine dput_box ?_)
    | (refine And.intro (by kernel_rfl : okAll _ = true) ?_)
    | (show pwCode ..; first | refine pc_seq ?_ | refine pc_region ?_ | refine pc_draw (by kernel_rfl) ?_ | refine pc_ret ?_ | refine pc_skip ?_ | refine pc_block ?_ | refine pc_exit ?_ | refine pc_cond ?_)
    | (show condGo ..; first | refine cd_t ?_ | refine cd_f ?_ | refine cd_n (fun _ => ?_) (fun _ => ?_) | refine cd_b (fun _ => ?_) (fun _ => ?_))
    | refine th_normal ?_
    | refine th_ret ?_
    | refine th_exit ?_
    | refine th_pan ?_
    | refine bl_normal ?_
    | refine bl_exit ?_
    | refine bl_pass rfl ?_
    | refine bl_ret ?_
    | refine bl_pan ?_
    | (show retQ ..; first | refine rt_ret ?_ | refine rt_normal ?_)
    | refine rs_some ?_)
  refine pc_loop (S := Nat × List Ob × Bool × Nat) (fun s => w.objects.length - s.1) (fun s => s.1 ≤ w.objects.length ∧ 3 ≤ s.2.2.2 ∧ (w.objects.take s.1).foldl (stpR o) ([], false) = (s.2.1, s.2.2.1)) (fun s => [(2, .ptr 0 0), (3, .ptr 1 0), (4, .ptr 2 0), (5, accV s.2.2.2 s.2.1), (6, .bool s.2.2.1), (7, .int .i64 s.1)]) (fun s => (0, .box (Wd.enc w)) :: (1, .box (Ob.enc o)) :: (2, .box (Wd.enc Wd.zero)) :: accG s.2.2.2 40 51 Ob.enc s.2.1) (fun s => accM 3 s.2.2.2 s.2.1) (0, [], false, 3) ⟨Nat.zero_le _, Nat.le_refl _, rfl⟩ (by simp only [accV_nil, accG_nil, accM_nil]; (refine keepI ?_ ?_ <;> repeat' (first | exact ke_nil | exact kg_nil | refine ke_cons (by (try simp only [go_sem, *]); try rfl) (by simp only [go_sem, *]) ?_ | refine kg_box (by (try simp only [go_sem, *]); try rfl) (by omega) (by simp only [go_sem, *]) ?_ | refine kg_row (by (try simp only [go_sem, *]); try rfl) (by omega) (by simp only [go_sem, *]) ?_))) ?_
  rintro ⟨n, acc, done, k⟩ ⟨hn, hk, hs⟩
  simp only at hn hk hs
  have ha : acc.length ≤ 200000 := by
    have := stp_len o (w.objects.take n) ([], false)
    rw [hs] at this
    simp only [List.length_nil, List.length_take] at this
    omega
  have hb1 := app_max (k := acc.length) (by omega)
  have hb2 := app_by (k := acc.length) (b := 632) (by omega) (by decide)
  have hb5 : (2 ≤ maxLen) = True := eq_true (by simp [maxLen])
  have hb3 := app_max (k := acc.length + 1) (by omega)
  have hb4 := app_by (k := acc.length + 1) (b := 632) (by omega) (by decide)
  have hla : (acc ++ [o]).length = acc.length + 1 := by simp
  have hk0 : (k = 0) = False := eq_false (by omega)
  have hk1 : (k = 1) = False := eq_false (by omega)
  have hj0 : (0 = k) = False := eq_false (by omega)
  have hj1 : (1 = k) = False := eq_false (by omega)
  have hk2 : (k = 2) = False := eq_false (by omega)
  have hj2 : (2 = k) = False := eq_false (by omega)
  rcases Nat.lt_or_ge n w.objects.length with hlt | hge
  · obtain ⟨x, hx⟩ := lt_len hlt
    have h0 := lt_true hlt
    have h4 := wrap_nat n (by omega)
    have e := stp_snoc (o := o) hx ([], false)
    rw [hs] at e
    clear hs
    cases done with
    | true =>
      cases hc : (x.id == o.id) with
      | true =>
        have es := stp_eq (o := o) (s := (acc, true)) rfl rfl hc
        rcases or_nil acc with hnil | hne
        · subst hnil
          simp only [accV_nil, accG_nil, accM_nil]
          repeat' (first
    | (show pwOps ..; first | refine pops_nil ?_ | refine pops_n rfl ?_ | refine pops_w' rfl rfl ?_)
    | (show runGo ..; first | refine run_ev rfl rfl ?_ | refine run_call rfl ?_)
    | (show goOn ..; first | refine on_nop ?_ | refine on_new ?_ | refine on_put ?_ | refine on_born ?_ | refine on_grow ?_)
    | (show putGo ..; refine put_box ?_)
    | (show wGo ..; first | refine gw_tt ?_ | refine gw_ff ?_ | refine gw_tf ?_ | refine gw_ft ?_ | refine gw_u ?_ | refine gw_tn (fun _ => ?_) (fun _ => ?_) | refine gw_fn (fun _ => ?_) (fun _ => ?_) | refine gw_tb (fun _ => ?_) (fun _ => ?_) | refine gw_fb (fun _ => ?_) (fun _ => ?_))
    | (show dr ..; first | refine dr_nil ?_ | refine dr_n rfl ?_ | refine dr_w' rfl rfl ?_)
    | (show drGo ..; first | refine dr_ev rfl ?_ | refine dr_call rfl ?_)
    | (show drOn ..; first | refine dn_nop ?_ | refine dn_new ?_ | refine dn_put ?_ | refine dn_born ?_ | refine dn_grow ?_)
    | (show dputGo ..; refine dput_box ?_)
    | (refine And.intro (by kernel_rfl : okAll _ = true) ?_)
    | (show pwCode ..; first | refine pc_seq ?_ | refine pc_region ?_ | refine pc_draw (by kernel_rfl) ?_ | refine pc_ret ?_ | refine pc_skip ?_ | refine pc_block ?_ | refine pc_exit ?_ | refine pc_cond ?_)
    | (show condGo ..; first | refine cd_t ?_ | refine cd_f ?_ | refine cd_n (fun _ => ?_) (fun _ => ?_) | refine cd_b (fun _ => ?_) (fun _ => ?_))
    | refine th_normal ?_
    | refine th_ret ?_
    | refine th_exit ?_
    | refine th_pan ?_
    | refine bl_normal ?_
    | refine bl_exit ?_
    | refine bl_pass rfl ?_
    | refine bl_ret ?_
    | refine bl_pan ?_
    | (show retQ ..; first | refine rt_ret ?_ | refine rt_normal ?_)
    | refine rs_some ?_)
          refine again (n + 1, [], true, 3) ⟨hlt, by simp only; omega, by rw [e, es]; rfl⟩ (by simp only; omega) ?_
          simp only [accV_nil, accG_nil, accM_nil]
          (refine keepI ?_ ?_ <;> repeat' (first | exact ke_nil | exact kg_nil | refine ke_cons (by (try simp only [go_sem, *]); try rfl) (by simp only [go_sem, *]) ?_ | refine kg_box (by (try simp only [go_sem, *]); try rfl) (by omega) (by simp only [go_sem, *]) ?_ | refine kg_row (by (try simp only [go_sem, *]); try rfl) (by omega) (by simp only [go_sem, *]) ?_))
        · simp only [accV_ne hne, accG_ne hne, accM_ne hne]
          repeat' (first
    | (show pwOps ..; first | refine pops_nil ?_ | refine pops_n rfl ?_ | refine pops_w' rfl rfl ?_)
    | (show runGo ..; first | refine run_ev rfl rfl ?_ | refine run_call rfl ?_)
    | (show goOn ..; first | refine on_nop ?_ | refine on_new ?_ | refine on_put ?_ | refine on_born ?_ | refine on_grow ?_)
    | (show putGo ..; refine put_box ?_)
    | (show wGo ..; first | refine gw_tt ?_ | refine gw_ff ?_ | refine gw_tf ?_ | refine gw_ft ?_ | refine gw_u ?_ | refine gw_tn (fun _ => ?_) (fun _ => ?_) | refine gw_fn (fun _ => ?_) (fun _ => ?_) | refine gw_tb (fun _ => ?_) (fun _ => ?_) | refine gw_fb (fun _ => ?_) (fun _ => ?_))
    | (show dr ..; first | refine dr_nil ?_ | refine dr_n rfl ?_ | refine dr_w' rfl rfl ?_)
    | (show drGo ..; first | refine dr_ev rfl ?_ | refine dr_call rfl ?_)
    | (show drOn ..; first | refine dn_nop ?_ | refine dn_new ?_ | refine dn_put ?_ | refine dn_born ?_ | refine dn_grow ?_)
    | (show dputGo ..; refine dput_box ?_)
    | (refine And.intro (by kernel_rfl : okAll _ = true) ?_)
    | (show pwCode ..; first | refine pc_seq ?_ | refine pc_region ?_ | refine pc_draw (by kernel_rfl) ?_ | refine pc_ret ?_ | refine pc_skip ?_ | refine pc_block ?_ | refine pc_exit ?_ | refine pc_cond ?_)
    | (show condGo ..; first | refine cd_t ?_ | refine cd_f ?_ | refine cd_n (fun _ => ?_) (fun _ => ?_) | refine cd_b (fun _ => ?_) (fun _ => ?_))
    | refine th_normal ?_
    | refine th_ret ?_
    | refine th_exit ?_
    | refine th_pan ?_
    | refine bl_normal ?_
    | refine bl_exit ?_
    | refine bl_pass rfl ?_
    | refine bl_ret ?_
    | refine bl_pan ?_
    | (show retQ ..; first | refine rt_ret ?_ | refine rt_normal ?_)
    | refine rs_some ?_)
          refine again (n + 1, acc, true, k) ⟨hlt, by simp only; omega, by rw [e, es]; rfl⟩ (by simp only; omega) ?_
          simp only [accV_ne hne, accG_ne hne, accM_ne hne]
          (refine keepI ?_ ?_ <;> repeat' (first | exact ke_nil | exact kg_nil | refine ke_cons (by (try simp only [go_sem, *]); try rfl) (by simp only [go_sem, *]) ?_ | refine kg_box (by (try simp only [go_sem, *]); try rfl) (by omega) (by simp only [go_sem, *]) ?_ | refine kg_row (by (try simp only [go_sem, *]); try rfl) (by omega) (by simp only [go_sem, *]) ?_))
      | false =>
        have es := stp_eq (o := o) (s := (acc, true)) rfl rfl hc
        rcases or_nil acc with hnil | hne
        · subst hnil
          simp only [accV_nil, accG_nil, accM_nil]
          repeat' (first
    | (show pwOps ..; first | refine pops_nil ?_ | refine pops_n rfl ?_ | refine pops_w' rfl rfl ?_)
    | (show runGo ..; first | refine run_ev rfl rfl ?_ | refine run_call rfl ?_)
    | (show goOn ..; first | refine on_nop ?_ | refine on_new ?_ | refine on_put ?_ | refine on_born ?_ | refine on_grow ?_)
    | (show putGo ..; refine put_box ?_)
    | (show wGo ..; first | refine gw_tt ?_ | refine gw_ff ?_ | refine gw_tf ?_ | refine gw_ft ?_ | refine gw_u ?_ | refine gw_tn (fun _ => ?_) (fun _ => ?_) | refine gw_fn (fun _ => ?_) (fun _ => ?_) | refine gw_tb (fun _ => ?_) (fun _ => ?_) | refine gw_fb (fun _ => ?_) (fun _ => ?_))
    | (show dr ..; first | refine dr_nil ?_ | refine dr_n rfl ?_ | refine dr_w' rfl rfl ?_)
    | (show drGo ..; first | refine dr_ev rfl ?_ | refine dr_call rfl ?_)
    | (show drOn ..; first | refine dn_nop ?_ | refine dn_new ?_ | refine dn_put ?_ | refine dn_born ?_ | refine dn_grow ?_)
    | (show dputGo ..; refine dput_box ?_)
    | (refine And.intro (by kernel_rfl : okAll _ = true) ?_)
    | (show pwCode ..; first | refine pc_seq ?_ | refine pc_region ?_ | refine pc_draw (by kernel_rfl) ?_ | refine pc_ret ?_ | refine pc_skip ?_ | refine pc_block ?_ | refine pc_exit ?_ | refine pc_cond ?_)
    | (show condGo ..; first | refine cd_t ?_ | refine cd_f ?_ | refine cd_n (fun _ => ?_) (fun _ => ?_) | refine cd_b (fun _ => ?_) (fun _ => ?_))
    | refine th_normal ?_
    | refine th_ret ?_
    | refine th_exit ?_
    | refine th_pan ?_
    | refine bl_normal ?_
    | refine bl_exit ?_
    | refine bl_pass rfl ?_
    | refine bl_ret ?_
    | refine bl_pan ?_
    | (show retQ ..; first | refine rt_ret ?_ | refine rt_normal ?_)
    | refine rs_some ?_)
          refine again (n + 1, [] ++ [x], true, 3) ⟨hlt, by simp only; omega, by rw [e, es]; rfl⟩ (by simp only; omega) ?_
          simp only [accV_snoc, accG_snoc, accM_snoc]
          (refine keepI ?_ ?_ <;> repeat' (first | exact ke_nil | exact kg_nil | refine ke_cons (by (try simp only [go_sem, *]); try rfl) (by simp only [go_sem, *]) ?_ | refine kg_box (by (try simp only [go_sem, *]); try rfl) (by omega) (by simp only [go_sem, *]) ?_ | refine kg_row (by (try simp only [go_sem, *]); try rfl) (by omega) (by simp only [go_sem, *]) ?_))
        · simp only [accV_ne hne, accG_ne hne, accM_ne hne]
          repeat' (first
    | (show pwOps ..; first | refine pops_nil ?_ | refine pops_n rfl ?_ | refine pops_w' rfl rfl ?_)
    | (show runGo ..; first | refine run_ev rfl rfl ?_ | refine run_call rfl ?_)
    | (show goOn ..; first | refine on_nop ?_ | refine on_new ?_ | refine on_put ?_ | refine on_born ?_ | refine on_grow ?_)
    | (show putGo ..; refine put_box ?_)
    | (show wGo ..; first | refine gw_tt ?_ | refine gw_ff ?_ | refine gw_tf ?_ | refine gw_ft ?_ | refine gw_u ?_ | refine gw_tn (fun _ => ?_) (fun _ => ?_) | refine gw_fn (fun _ => ?_) (fun _ => ?_) | refine gw_tb (fun _ => ?_) (fun _ => ?_) | refine gw_fb (fun _ => ?_) (fun _ => ?_))
    | (show dr ..; first | refine dr_nil ?_ | refine dr_n rfl ?_ | refine dr_w' rfl rfl ?_)
    | (show drGo ..; first | refine dr_ev rfl ?_ | refine dr_call rfl ?_)
    | (show drOn ..; first | refine dn_nop ?_ | refine dn_new ?_ | refine dn_put ?_ | refine dn_born ?_ | refine dn_grow ?_)
    | (show dputGo ..; refine dput_box ?_)
    | (refine And.intro (by kernel_rfl : okAll _ = true) ?_)
    | (show pwCode ..; first | refine pc_seq ?_ | refine pc_region ?_ | refine pc_draw (by kernel_rfl) ?_ | refine pc_ret ?_ | refine pc_skip ?_ | refine pc_block ?_ | refine pc_exit ?_ | refine pc_cond ?_)
    | (show condGo ..; first | refine cd_t ?_ | refine cd_f ?_ | refine cd_n (fun _ => ?_) (fun _ => ?_) | refine cd_b (fun _ => ?_) (fun _ => ?_))
    | refine th_normal ?_
    | refine th_ret ?_
    | refine th_exit ?_
    | refine th_pan ?_
    | refine bl_normal ?_
    | refine bl_exit ?_
    | refine bl_pass rfl ?_
    | refine bl_ret ?_
    | refine bl_pan ?_
    | (show retQ ..; first | refine rt_ret ?_ | refine rt_normal ?_)
    | refine rs_some ?_)
          refine again (n + 1, acc ++ [x], true, k) ⟨hlt, by simp only; omega, by rw [e, es]; rfl⟩ (by simp only; omega) ?_
          simp only [accV_snoc, accG_snoc, accM_snoc]
          (refine keepI ?_ ?_ <;> repeat' (first | exact ke_nil | exact kg_nil | refine ke_cons (by (try simp only [go_sem, *]); try rfl) (by simp only [go_sem, *]) ?_ | refine kg_box (by (try simp only [go_sem, *]); try rfl) (by omega) (by simp only [go_sem, *]) ?_ | refine kg_row (by (try simp only [go_sem, *]); try rfl) (by omega) (by simp only [go_sem, *]) ?_))
    | false =>
      cases hb : decide (x.id ≥ o.id) with
      | true =>
        cases hc : (x.id == o.id) with
        | true =>
          have es := stp_eq (o := o) (s := (acc, false)) rfl hb hc
          rcases or_nil acc with hnil | hne
          · subst hnil
            simp only [accV_nil, accG_nil, accM_nil]
            repeat' (first
    | (show pwOps ..; first | refine pops_nil ?_ | refine pops_n rfl ?_ | refine pops_w' rfl rfl ?_)
    | (show runGo ..; first | refine run_ev rfl rfl ?_ | refine run_call rfl ?_)
    | (show goOn ..; first | refine on_nop ?_ | refine on_new ?_ | refine on_put ?_ | refine on_born ?_ | refine on_grow ?_)
    | (show putGo ..; refine put_box ?_)
    | (show wGo ..; first | refine gw_tt ?_ | refine gw_ff ?_ | refine gw_tf ?_ | refine gw_ft ?_ | refine gw_u ?_ | refine gw_tn (fun _ => ?_) (fun _ => ?_) | refine gw_fn (fun _ => ?_) (fun _ => ?_) | refine gw_tb (fun _ => ?_) (fun _ => ?_) | refine gw_fb (fun _ => ?_) (fun _ => ?_))
    | (show dr ..; first | refine dr_nil ?_ | refine dr_n rfl ?_ | refine dr_w' rfl rfl ?_)
    | (show drGo ..; first | refine dr_ev rfl ?_ | refine dr_call rfl ?_)
    | (show drOn ..; first | refine dn_nop ?_ | refine dn_new ?_ | refine dn_put ?_ | refine dn_born ?_ | refine dn_grow ?_)
    | (show dputGo ..; refine dput_box ?_)
    | (refine And.intro (by kernel_rfl : okAll _ = true) ?_)
    | (show pwCode ..; first | refine pc_seq ?_ | refine pc_region ?_ | refine pc_draw (by kernel_rfl) ?_ | refine pc_ret ?_ | refine pc_skip ?_ | refine pc_block ?_ | refine pc_exit ?_ | refine pc_cond ?_)
    | (show condGo ..; first | refine cd_t ?_ | refine cd_f ?_ | refine cd_n (fun _ => ?_) (fun _ => ?_) | refine cd_b (fun _ => ?_) (fun _ => ?_))
    | refine th_normal ?_
    | refine th_ret ?_
    | refine th_exit ?_
    | refine th_pan ?_
    | refine bl_normal ?_
    | refine bl_exit ?_
    | refine bl_pass rfl ?_
    | refine bl_ret ?_
    | refine bl_pan ?_
    | (show retQ ..; first | refine rt_ret ?_ | refine rt_normal ?_)
    | refine rs_some ?_)
            refine again (n + 1, [] ++ [o], true, 3) ⟨hlt, by simp only; omega, by rw [e, es]; rfl⟩ (by simp only; omega) ?_
            simp only [accV_snoc, accG_snoc, accM_snoc]
            (refine keepI ?_ ?_ <;> repeat' (first | exact ke_nil | exact kg_nil | refine ke_cons (by (try simp only [go_sem, *]); try rfl) (by simp only [go_sem, *]) ?_ | refine kg_box (by (try simp only [go_sem, *]); try rfl) (by omega) (by simp only [go_sem, *]) ?_ | refine kg_row (by (try simp only [go_sem, *]); try rfl) (by omega) (by simp only [go_sem, *]) ?_))
          · simp only [accV_ne hne, accG_ne hne, accM_ne hne]
            repeat' (first
    | (show pwOps ..; first | refine pops_nil ?_ | refine pops_n rfl ?_ | refine pops_w' rfl rfl ?_)
    | (show runGo ..; first | refine run_ev rfl rfl ?_ | refine run_call rfl ?_)
    | (show goOn ..; first | refine on_nop ?_ | refine on_new ?_ | refine on_put ?_ | refine on_born ?_ | refine on_grow ?_)
    | (show putGo ..; refine put_box ?_)
    | (show wGo ..; first | refine gw_tt ?_ | refine gw_ff ?_ | refine gw_tf ?_ | refine gw_ft ?_ | refine gw_u ?_ | refine gw_tn (fun _ => ?_) (fun _ => ?_) | refine gw_fn (fun _ => ?_) (fun _ => ?_) | refine gw_tb (fun _ => ?_) (fun _ => ?_) | refine gw_fb (fun _ => ?_) (fun _ => ?_))
    | (show dr ..; first | refine dr_nil ?_ | refine dr_n rfl ?_ | refine dr_w' rfl rfl ?_)
    | (show drGo ..; first | refine dr_ev rfl ?_ | refine dr_call rfl ?_)
    | (show drOn ..; first | refine dn_nop ?_ | refine dn_new ?_ | refine dn_put ?_ | refine dn_born ?_ | refine dn_grow ?_)
    | (show dputGo ..; refine dput_box ?_)
    | (refine And.intro (by kernel_rfl : okAll _ = true) ?_)
    | (show pwCode ..; first | refine pc_seq ?_ | refine pc_region ?_ | refine pc_draw (by kernel_rfl) ?_ | refine pc_ret ?_ | refine pc_skip ?_ | refine pc_block ?_ | refine pc_exit ?_ | refine pc_cond ?_)
    | (show condGo ..; first | refine cd_t ?_ | refine cd_f ?_ | refine cd_n (fun _ => ?_) (fun _ => ?_) | refine cd_b (fun _ => ?_) (fun _ => ?_))
    | refine th_normal ?_
    | refine th_ret ?_
    | refine th_exit ?_
    | refine th_pan ?_
    | refine bl_normal ?_
    | refine bl_exit ?_
    | refine bl_pass rfl ?_
    | refine bl_ret ?_
    | refine bl_pan ?_
    | (show retQ ..; first | refine rt_ret ?_ | refine rt_normal ?_)
    | refine rs_some ?_)
            refine again (n + 1, acc ++ [o], true, k) ⟨hlt, by simp only; omega, by rw [e, es]; rfl⟩ (by simp only; omega) ?_
            simp only [accV_snoc, accG_snoc, accM_snoc]
            (refine keepI ?_ ?_ <;> repeat' (first | exact ke_nil | exact kg_nil | refine ke_cons (by (try simp only [go_sem, *]); try rfl) (by simp only [go_sem, *]) ?_ | refine kg_box (by (try simp only [go_sem, *]); try rfl) (by omega) (by simp only [go_sem, *]) ?_ | refine kg_row (by (try simp only [go_sem, *]); try rfl) (by omega) (by simp only [go_sem, *]) ?_))
        | false =>
          have es := stp_eq (o := o) (s := (acc, false)) rfl hb hc
          rcases or_nil acc with hnil | hne
          · subst hnil
            simp only [accV_nil, accG_nil, accM_nil]
            repeat' (first
    | (show pwOps ..; first | refine pops_nil ?_ | refine pops_n rfl ?_ | refine pops_w' rfl rfl ?_)
    | (show runGo ..; first | refine run_ev rfl rfl ?_ | refine run_call rfl ?_)
    | (show goOn ..; first | refine on_nop ?_ | refine on_new ?_ | refine on_put ?_ | refine on_born ?_ | refine on_grow ?_)
    | (show putGo ..; refine put_box ?_)
    | (show wGo ..; first | refine gw_tt ?_ | refine gw_ff ?_ | refine gw_tf ?_ | refine gw_ft ?_ | refine gw_u ?_ | refine gw_tn (fun _ => ?_) (fun _ => ?_) | refine gw_fn (fun _ => ?_) (fun _ => ?_) | refine gw_tb (fun _ => ?_) (fun _ => ?_) | refine gw_fb (fun _ => ?_) (fun _ => ?_))
    | (show dr ..; first | refine dr_nil ?_ | refine dr_n rfl ?_ | refine dr_w' rfl rfl ?_)
    | (show drGo ..; first | refine dr_ev rfl ?_ | refine dr_call rfl ?_)
    | (show drOn ..; first | refine dn_nop ?_ | refine dn_new ?_ | refine dn_put ?_ | refine dn_born ?_ | refine dn_grow ?_)
    | (show dputGo ..; refine dput_box ?_)
    | (refine And.intro (by kernel_rfl : okAll _ = true) ?_)
    | (show pwCode ..; first | refine pc_seq ?_ | refine pc_region ?_ | refine pc_draw (by kernel_rfl) ?_ | refine pc_ret ?_ | refine pc_skip ?_ | refine pc_block ?_ | refine pc_exit ?_ | refine pc_cond ?_)
    | (show condGo ..; first | refine cd_t ?_ | refine cd_f ?_ | refine cd_n (fun _ => ?_) (fun _ => ?_) | refine cd_b (fun _ => ?_) (fun _ => ?_))
    | refine th_normal ?_
    | refine th_ret ?_
    | refine th_exit ?_
    | refine th_pan ?_
    | refine bl_normal ?_
    | refine bl_exit ?_
    | refine bl_pass rfl ?_
    | refine bl_ret ?_
    | refine bl_pan ?_
    | (show retQ ..; first | refine rt_ret ?_ | refine rt_normal ?_)
    | refine rs_some ?_)
            refine again (n + 1, [] ++ [o] ++ [x], true, 3) ⟨hlt, by simp only; omega, by rw [e, es]; rfl⟩ (by simp only; omega) ?_
            simp only [accV_snoc, accG_snoc, accM_snoc]
            (refine keepI ?_ ?_ <;> repeat' (first | exact ke_nil | exact kg_nil | refine ke_cons (by (try simp only [go_sem, *]); try rfl) (by simp only [go_sem, *]) ?_ | refine kg_box (by (try simp only [go_sem, *]); try rfl) (by omega) (by simp only [go_sem, *]) ?_ | refine kg_row (by (try simp only [go_sem, *]); try rfl) (by omega) (by simp only [go_sem, *]) ?_))
          · simp only [accV_ne hne, accG_ne hne, accM_ne hne]
            repeat' (first
    | (show pwOps ..; first | refine pops_nil ?_ | refine pops_n rfl ?_ | refine pops_w' rfl rfl ?_)
    | (show runGo ..; first | refine run_ev rfl rfl ?_ | refine run_call rfl ?_)
    | (show goOn ..; first | refine on_nop ?_ | refine on_new ?_ | refine on_put ?_ | refine on_born ?_ | refine on_grow ?_)
    | (show putGo ..; refine put_box ?_)
    | (show wGo ..; first | refine gw_tt ?_ | refine gw_ff ?_ | refine gw_tf ?_ | refine gw_ft ?_ | refine gw_u ?_ | refine gw_tn (fun _ => ?_) (fun _ => ?_) | refine gw_fn (fun _ => ?_) (fun _ => ?_) | refine gw_tb (fun _ => ?_) (fun _ => ?_) | refine gw_fb (fun _ => ?_) (fun _ => ?_))
    | (show dr ..; first | refine dr_nil ?_ | refine dr_n rfl ?_ | refine dr_w' rfl rfl ?_)
    | (show drGo ..; first | refine dr_ev rfl ?_ | refine dr_call rfl ?_)
    | (show drOn ..; first | refine dn_nop ?_ | refine dn_new ?_ | refine dn_put ?_ | refine dn_born ?_ | refine dn_grow ?_)
    | (show dputGo ..; refine dput_box ?_)
    | (refine And.intro (by kernel_rfl : okAll _ = true) ?_)
    | (show pwCode ..; first | refine pc_seq ?_ | refine pc_region ?_ | refine pc_draw (by kernel_rfl) ?_ | refine pc_ret ?_ | refine pc_skip ?_ | refine pc_block ?_ | refine pc_exit ?_ | refine pc_cond ?_)
    | (show condGo ..; first | refine cd_t ?_ | refine cd_f ?_ | refine cd_n (fun _ => ?_) (fun _ => ?_) | refine cd_b (fun _ => ?_) (fun _ => ?_))
    | refine th_normal ?_
    | refine th_ret ?_
    | refine th_exit ?_
    | refine th_pan ?_
    | refine bl_normal ?_
    | refine bl_exit ?_
    | refine bl_pass rfl ?_
    | refine bl_ret ?_
    | refine bl_pan ?_
    | (show retQ ..; first | refine rt_ret ?_ | refine rt_normal ?_)
    | refine rs_some ?_)
            refine again (n + 1, acc ++ [o] ++ [x], true, k) ⟨hlt, by simp only; omega, by rw [e, es]; rfl⟩ (by simp only; omega) ?_
            simp only [accV_snoc, accG_snoc, accM_snoc]
            (refine keepI ?_ ?_ <;> repeat' (first | exact ke_nil | exact kg_nil | refine ke_cons (by (try simp only [go_sem, *]); try rfl) (by simp only [go_sem, *]) ?_ | refine kg_box (by (try simp only [go_sem, *]); try rfl) (by omega) (by simp only [go_sem, *]) ?_ | refine kg_row (by (try simp only [go_sem, *]); try rfl) (by omega) (by simp only [go_sem, *]) ?_))
      | false =>
        cases hc : (x.id == o.id) with
        | true =>
          have es := stp_eq (o := o) (s := (acc, false)) rfl hb hc
          rcases or_nil acc with hnil | hne
          · subst hnil
            simp only [accV_nil, accG_nil, accM_nil]
            repeat' (first
    | (show pwOps ..; first | refine pops_nil ?_ | refine pops_n rfl ?_ | refine pops_w' rfl rfl ?_)
    | (show runGo ..; first | refine run_ev rfl rfl ?_ | refine run_call rfl ?_)
    | (show goOn ..; first | refine on_nop ?_ | refine on_new ?_ | refine on_put ?_ | refine on_born ?_ | refine on_grow ?_)
    | (show putGo ..; refine put_box ?_)
    | (show wGo ..; first | refine gw_tt ?_ | refine gw_ff ?_ | refine gw_tf ?_ | refine gw_ft ?_ | refine gw_u ?_ | refine gw_tn (fun _ => ?_) (fun _ => ?_) | refine gw_fn (fun _ => ?_) (fun _ => ?_) | refine gw_tb (fun _ => ?_) (fun _ => ?_) | refine gw_fb (fun _ => ?_) (fun _ => ?_))
    | (show dr ..; first | refine dr_nil ?_ | refine dr_n rfl ?_ | refine dr_w' rfl rfl ?_)
    | (show drGo ..; first | refine dr_ev rfl ?_ | refine dr_call rfl ?_)
    | (show drOn ..; first | refine dn_nop ?_ | refine dn_new ?_ | refine dn_put ?_ | refine dn_born ?_ | refine dn_grow ?_)
    | (show dputGo ..; refine dput_box ?_)
    | (refine And.intro (by kernel_rfl : okAll _ = true) ?_)
    | (show pwCode ..; first | refine pc_seq ?_ | refine pc_region ?_ | refine pc_draw (by kernel_rfl) ?_ | refine pc_ret ?_ | refine pc_skip ?_ | refine pc_block ?_ | refine pc_exit ?_ | refine pc_cond ?_)
    | (show condGo ..; first | refine cd_t ?_ | refine cd_f ?_ | refine cd_n (fun _ => ?_) (fun _ => ?_) | refine cd_b (fun _ => ?_) (fun _ => ?_))
    | refine th_normal ?_
    | refine th_ret ?_
    | refine th_exit ?_
    | refine th_pan ?_
    | refine bl_normal ?_
    | refine bl_exit ?_
    | refine bl_pass rfl ?_
    | refine bl_ret ?_
    | refine bl_pan ?_
    | (show retQ ..; first | refine rt_ret ?_ | refine rt_normal ?_)
    | refine rs_some ?_)
            refine again (n + 1, [], false, 3) ⟨hlt, by simp only; omega, by rw [e, es]; rfl⟩ (by simp only; omega) ?_
            simp only [accV_nil, accG_nil, accM_nil]
            (refine keepI ?_ ?_ <;> repeat' (first | exact ke_nil | exact kg_nil | refine ke_cons (by (try simp only [go_sem, *]); try rfl) (by simp only [go_sem, *]) ?_ | refine kg_box (by (try simp only [go_sem, *]); try rfl) (by omega) (by simp only [go_sem, *]) ?_ | refine kg_row (by (try simp only [go_sem, *]); try rfl) (by omega) (by simp only [go_sem, *]) ?_))
          · simp only [accV_ne hne, accG_ne hne, accM_ne hne]
            repeat' (first
    | (show pwOps ..; first | refine pops_nil ?_ | refine pops_n rfl ?_ | refine pops_w' rfl rfl ?_)
    | (show runGo ..; first | refine run_ev rfl rfl ?_ | refine run_call rfl ?_)
    | (show goOn ..; first | refine on_nop ?_ | refine on_new ?_ | refine on_put ?_ | refine on_born ?_ | refine on_grow ?_)
    | (show putGo ..; refine put_box ?_)
    | (show wGo ..; first | refine gw_tt ?_ | refine gw_ff ?_ | refine gw_tf ?_ | refine gw_ft ?_ | refine gw_u ?_ | refine gw_tn (fun _ => ?_) (fun _ => ?_) | refine gw_fn (fun _ => ?_) (fun _ => ?_) | refine gw_tb (fun _ => ?_) (fun _ => ?_) | refine gw_fb (fun _ => ?_) (fun _ => ?_))
    | (show dr ..; first | refine dr_nil ?_ | refine dr_n rfl ?_ | refine dr_w' rfl rfl ?_)
    | (show drGo ..; first | refine dr_ev rfl ?_ | refine dr_call rfl ?_)
    | (show drOn ..; first | refine dn_nop ?_ | refine dn_new ?_ | refine dn_put ?_ | refine dn_born ?_ | refine dn_grow ?_)
    | (show dputGo ..; refine dput_box ?_)
    | (refine And.intro (by kernel_rfl : okAll _ = true) ?_)
    | (show pwCode ..; first | refine pc_seq ?_ | refine pc_region ?_ | refine pc_draw (by kernel_rfl) ?_ | refine pc_ret ?_ | refine pc_skip ?_ | refine pc_block ?_ | refine pc_exit ?_ | refine pc_cond ?_)
    | (show condGo ..; first | refine cd_t ?_ | refine cd_f ?_ | refine cd_n (fun _ => ?_) (fun _ => ?_) | refine cd_b (fun _ => ?_) (fun _ => ?_))
    | refine th_normal ?_
    | refine th_ret ?_
    | refine th_exit ?_
    | refine th_pan ?_
    | refine bl_normal ?_
    | refine bl_exit ?_
    | refine bl_pass rfl ?_
    | refine bl_ret ?_
    | refine bl_pan ?_
    | (show retQ ..; first | refine rt_ret ?_ | refine rt_normal ?_)
    | refine rs_some ?_)
            refine again (n + 1, acc, false, k) ⟨hlt, by simp only; omega, by rw [e, es]; rfl⟩ (by simp only; omega) ?_
            simp only [accV_ne hne, accG_ne hne, accM_ne hne]
            (refine keepI ?_ ?_ <;> repeat' (first | exact ke_nil | exact kg_nil | refine ke_cons (by (try simp only [go_sem, *]); try rfl) (by simp only [go_sem, *]) ?_ | refine kg_box (by (try simp only [go_sem, *]); try rfl) (by omega) (by simp only [go_sem, *]) ?_ | refine kg_row (by (try simp only [go_sem, *]); try rfl) (by omega) (by simp only [go_sem, *]) ?_))
        | false =>
          have es := stp_eq (o := o) (s := (acc, false)) rfl hb hc
          rcases or_nil acc with hnil | hne
          · subst hnil
            simp only [accV_nil, accG_nil, accM_nil]
            repeat' (first
    | (show pwOps ..; first | refine pops_nil ?_ | refine pops_n rfl ?_ | refine pops_w' rfl rfl ?_)
    | (show runGo ..; first | refine run_ev rfl rfl ?_ | refine run_call rfl ?_)
    | (show goOn ..; first | refine on_nop ?_ | refine on_new ?_ | refine on_put ?_ | refine on_born ?_ | refine on_grow ?_)
    | (show putGo ..; refine put_box ?_)
    | (show wGo ..; first | refine gw_tt ?_ | refine gw_ff ?_ | refine gw_tf ?_ | refine gw_ft ?_ | refine gw_u ?_ | refine gw_tn (fun _ => ?_) (fun _ => ?_) | refine gw_fn (fun _ => ?_) (fun _ => ?_) | refine gw_tb (fun _ => ?_) (fun _ => ?_) | refine gw_fb (fun _ => ?_) (fun _ => ?_))
    | (show dr ..; first | refine dr_nil ?_ | refine dr_n rfl ?_ | refine dr_w' rfl rfl ?_)
    | (show drGo ..; first | refine dr_ev rfl ?_ | refine dr_call rfl ?_)
    | (show drOn ..; first | refine dn_nop ?_ | refine dn_new ?_ | refine dn_put ?_ | refine dn_born ?_ | refine dn_grow ?_)
    | (show dputGo ..; refine dput_box ?_)
    | (refine And.intro (by kernel_rfl : okAll _ = true) ?_)
    | (show pwCode ..; first | refine pc_seq ?_ | refine pc_region ?_ | refine pc_draw (by kernel_rfl) ?_ | refine pc_ret ?_ | refine pc_skip ?_ | refine pc_block ?_ | refine pc_exit ?_ | refine pc_cond ?_)
    | (show condGo ..; first | refine cd_t ?_ | refine cd_f ?_ | refine cd_n (fun _ => ?_) (fun _ => ?_) | refine cd_b (fun _ => ?_) (fun _ => ?_))
    | refine th_normal ?_
    | refine th_ret ?_
    | refine th_exit ?_
    | refine th_pan ?_
    | refine bl_normal ?_
    | refine bl_exit ?_
    | refine bl_pass rfl ?_
    | refine bl_ret ?_
    | refine bl_pan ?_
    | (show retQ ..; first | refine rt_ret ?_ | refine rt_normal ?_)
    | refine rs_some ?_)
            refine again (n + 1, [] ++ [x], false, 3) ⟨hlt, by simp only; omega, by rw [e, es]; rfl⟩ (by simp only; omega) ?_
            simp only [accV_snoc, accG_snoc, accM_snoc]
            (refine keepI ?_ ?_ <;> repeat' (first | exact ke_nil | exact kg_nil | refine ke_cons (by (try simp only [go_sem, *]); try rfl) (by simp only [go_sem, *]) ?_ | refine kg_box (by (try simp only [go_sem, *]); try rfl) (by omega) (by simp only [go_sem, *]) ?_ | refine kg_row (by (try simp only [go_sem, *]); try rfl) (by omega) (by simp only [go_sem, *]) ?_))
          · simp only [accV_ne hne, accG_ne hne, accM_ne hne]
            repeat' (first
    | (show pwOps ..; first | refine pops_nil ?_ | refine pops_n rfl ?_ | refine pops_w' rfl rfl ?_)
    | (show runGo ..; first | refine run_ev rfl rfl ?_ | refine run_call rfl ?_)
    | (show goOn ..; first | refine on_nop ?_ | refine on_new ?_ | refine on_put ?_ | refine on_born ?_ | refine on_grow ?_)
    | (show putGo ..; refine put_box ?_)
    | (show wGo ..; first | refine gw_tt ?_ | refine gw_ff ?_ | refine gw_tf ?_ | refine gw_ft ?_ | refine gw_u ?_ | refine gw_tn (fun _ => ?_) (fun _ => ?_) | refine gw_fn (fun _ => ?_) (fun _ => ?_) | refine gw_tb (fun _ => ?_) (fun _ => ?_) | refine gw_fb (fun _ => ?_) (fun _ => ?_))
    | (show dr ..; first | refine dr_nil ?_ | refine dr_n rfl ?_ | refine dr_w' rfl rfl ?_)
    | (show drGo ..; first | refine dr_ev rfl ?_ | refine dr_call rfl ?_)
    | (show drOn ..; first | refine dn_nop ?_ | refine dn_new ?_ | refine dn_put ?_ | refine dn_born ?_ | refine dn_grow ?_)
    | (show dputGo ..; refine dput_box ?_)
    | (refine And.intro (by kernel_rfl : okAll _ = true) ?_)
    | (show pwCode ..; first | refine pc_seq ?_ | refine pc_region ?_ | refine pc_draw (by kernel_rfl) ?_ | refine pc_ret ?_ | refine pc_skip ?_ | refine pc_block ?_ | refine pc_exit ?_ | refine pc_cond ?_)
    | (show condGo ..; first | refine cd_t ?_ | refine cd_f ?_ | refine cd_n (fun _ => ?_) (fun _ => ?_) | refine cd_b (fun _ => ?_) (fun _ => ?_))
    | refine th_normal ?_
    | refine th_ret ?_
    | refine th_exit ?_
    | refine th_pan ?_
    | refine bl_normal ?_
    | refine bl_exit ?_
    | refine bl_pass rfl ?_
    | refine bl_ret ?_
    | refine bl_pan ?_
    | (show retQ ..; first | refine rt_ret ?_ | refine rt_normal ?_)
    | refine rs_some ?_)
            refine again (n + 1, acc ++ [x], false, k) ⟨hlt, by simp only; omega, by rw [e, es]; rfl⟩ (by simp only; omega) ?_
            simp only [accV_snoc, accG_snoc, accM_snoc]
            (refine keepI ?_ ?_ <;> repeat' (first | exact ke_nil | exact kg_nil | refine ke_cons (by (try simp only [go_sem, *]); try rfl) (by simp only [go_sem, *]) ?_ | refine kg_box (by (try simp only [go_sem, *]); try rfl) (by omega) (by simp only [go_sem, *]) ?_ | refine kg_row (by (try simp only [go_sem, *]); try rfl) (by omega) (by simp only [go_sem, *]) ?_))
  · have h0 := lt_false hge
    have hs' : w.objects.foldl (stpR o) ([], false) = (acc, done) := by rw [← hs, List.take_of_length_le hge]
    have hp : putL w.objects o = if done = true then acc else acc ++ [o] := by unfold putL; rw [hs']
    clear hs hs'
    cases done with
    | true =>
      rw [if_pos rfl] at hp
      unfold putR
      rw [hp]
      clear hp
      rcases or_nil acc with hnil | hne
      · subst hnil
        simp only [accV_nil, accG_nil, accM_nil]
        repeat' (first
    | (show pwOps ..; first | refine pops_nil ?_ | refine pops_n rfl ?_ | refine pops_w' rfl rfl ?_)
    | (show runGo ..; first | refine run_ev rfl rfl ?_ | refine run_call rfl ?_)
    | (show goOn ..; first | refine on_nop ?_ | refine on_new ?_ | refine on_put ?_ | refine on_born ?_ | refine on_grow ?_)
    | (show putGo ..; refine put_box ?_)
    | (show wGo ..; first | refine gw_tt ?_ | refine gw_ff ?_ | refine gw_tf ?_ | refine gw_ft ?_ | refine gw_u ?_ | refine gw_tn (fun _ => ?_) (fun _ => ?_) | refine gw_fn (fun _ => ?_) (fun _ => ?_) | refine gw_tb (fun _ => ?_) (fun _ => ?_) | refine gw_fb (fun _ => ?_) (fun _ => ?_))
    | (show dr ..; first | refine dr_nil ?_ | refine dr_n rfl ?_ | refine dr_w' rfl rfl ?_)
    | (show drGo ..; first | refine dr_ev rfl ?_ | refine dr_call rfl ?_)
    | (show drOn ..; first | refine dn_nop ?_ | refine dn_new ?_ | refine dn_put ?_ | refine dn_born ?_ | refine dn_grow ?_)
    | (show dputGo ..; refine dput_box ?_)
    | (refine And.intro (by kernel_rfl : okAll _ = true) ?_)
    | (show pwCode ..; first | refine pc_seq ?_ | refine pc_region ?_ | refine pc_draw (by kernel_rfl) ?_ | refine pc_ret ?_ | refine pc_skip ?_ | refine pc_block ?_ | refine pc_exit ?_ | refine pc_cond ?_)
    | (show condGo ..; first | refine cd_t ?_ | refine cd_f ?_ | refine cd_n (fun _ => ?_) (fun _ => ?_) | refine cd_b (fun _ => ?_) (fun _ => ?_))
    | refine th_normal ?_
    | refine th_ret ?_
    | refine th_exit ?_
    | refine th_pan ?_
    | refine bl_normal ?_
    | refine bl_exit ?_
    | refine bl_pass rfl ?_
    | refine bl_ret ?_
    | refine bl_pan ?_
    | (show retQ ..; first | refine rt_ret ?_ | refine rt_normal ?_)
    | refine rs_some ?_)
        all_goals first | rfl | (rename_i hc; first | rfl | (rw [hc]; rfl) | (rw [hla, hc]; rfl))
      · simp only [accV_ne hne, accG_ne hne, accM_ne hne]
        repeat' (first
    | (show pwOps ..; first | refine pops_nil ?_ | refine pops_n rfl ?_ | refine pops_w' rfl rfl ?_)
    | (show runGo ..; first | refine run_ev rfl rfl ?_ | refine run_call rfl ?_)
    | (show goOn ..; first | refine on_nop ?_ | refine on_new ?_ | refine on_put ?_ | refine on_born ?_ | refine on_grow ?_)
    | (show putGo ..; refine put_box ?_)
    | (show wGo ..; first | refine gw_tt ?_ | refine gw_ff ?_ | refine gw_tf ?_ | refine gw_ft ?_ | refine gw_u ?_ | refine gw_tn (fun _ => ?_) (fun _ => ?_) | refine gw_fn (fun _ => ?_) (fun _ => ?_) | refine gw_tb (fun _ => ?_) (fun _ => ?_) | refine gw_fb (fun _ => ?_) (fun _ => ?_))
    | (show dr ..; first | refine dr_nil ?_ | refine dr_n rfl ?_ | refine dr_w' rfl rfl ?_)
    | (show drGo ..; first | refine dr_ev rfl ?_ | refine dr_call rfl ?_)
    | (show drOn ..; first | refine dn_nop ?_ | refine dn_new ?_ | refine dn_put ?_ | refine dn_born ?_ | refine dn_grow ?_)
    | (show dputGo ..; refine dput_box ?_)
    | (refine And.intro (by kernel_rfl : okAll _ = true) ?_)
    | (show pwCode ..; first | refine pc_seq ?_ | refine pc_region ?_ | refine pc_draw (by kernel_rfl) ?_ | refine pc_ret ?_ | refine pc_skip ?_ | refine pc_block ?_ | refine pc_exit ?_ | refine pc_cond ?_)
    | (show condGo ..; first | refine cd_t ?_ | refine cd_f ?_ | refine cd_n (fun _ => ?_) (fun _ => ?_) | refine cd_b (fun _ => ?_) (fun _ => ?_))
    | refine th_normal ?_
    | refine th_ret ?_
    | refine th_exit ?_
    | refine th_pan ?_
    | refine bl_normal ?_
    | refine bl_exit ?_
    | refine bl_pass rfl ?_
    | refine bl_ret ?_
    | refine bl_pan ?_
    | (show retQ ..; first | refine rt_ret ?_ | refine rt_normal ?_)
    | refine rs_some ?_)
        all_goals first | rfl | (rename_i hc; first | rfl | (rw [hc]; rfl) | (rw [hla, hc]; rfl))
    | false =>
      rw [if_neg (by simp)] at hp
      unfold putR
      rw [hp]
      clear hp
      rcases or_nil acc with hnil | hne
      · subst hnil
        simp only [accV_nil, accG_nil, accM_nil]
        repeat' (first
    | (show pwOps ..; first | refine pops_nil ?_ | refine pops_n rfl ?_ | refine pops_w' rfl rfl ?_)
    | (show runGo ..; first | refine run_ev rfl rfl ?_ | refine run_call rfl ?_)
    | (show goOn ..; first | refine on_nop ?_ | refine on_new ?_ | refine on_put ?_ | refine on_born ?_ | refine on_grow ?_)
    | (show putGo ..; refine put_box ?_)
    | (show wGo ..; first | refine gw_tt ?_ | refine gw_ff ?_ | refine gw_tf ?_ | refine gw_ft ?_ | refine gw_u ?_ | refine gw_tn (fun _ => ?_) (fun _ => ?_) | refine gw_fn (fun _ => ?_) (fun _ => ?_) | refine gw_tb (fun _ => ?_) (fun _ => ?_) | refine gw_fb (fun _ => ?_) (fun _ => ?_))
    | (show dr ..; first | refine dr_nil ?_ | refine dr_n rfl ?_ | refine dr_w' rfl rfl ?_)
    | (show drGo ..; first | refine dr_ev rfl ?_ | refine dr_call rfl ?_)
    | (show drOn ..; first | refine dn_nop ?_ | refine dn_new ?_ | refine dn_put ?_ | refine dn_born ?_ | refine dn_grow ?_)
    | (show dputGo ..; refine dput_box ?_)
    | (refine And.intro (by kernel_rfl : okAll _ = true) ?_)
    | (show pwCode ..; first | refine pc_seq ?_ | refine pc_region ?_ | refine pc_draw (by kernel_rfl) ?_ | refine pc_ret ?_ | refine pc_skip ?_ | refine pc_block ?_ | refine pc_exit ?_ | refine pc_cond ?_)
    | (show condGo ..; first | refine cd_t ?_ | refine cd_f ?_ | refine cd_n (fun _ => ?_) (fun _ => ?_) | refine cd_b (fun _ => ?_) (fun _ => ?_))
    | refine th_normal ?_
    | refine th_ret ?_
    | refine th_exit ?_
    | refine th_pan ?_
    | refine bl_normal ?_
    | refine bl_exit ?_
    | refine bl_pass rfl ?_
    | refine bl_ret ?_
    | refine bl_pan ?_
    | (show retQ ..; first | refine rt_ret ?_ | refine rt_normal ?_)
    | refine rs_some ?_)
        all_goals first | rfl | (rename_i hc; first | rfl | (rw [hc]; rfl) | (rw [hla, hc]; rfl))
      · simp only [accV_ne hne, accG_ne hne, accM_ne hne]
        repeat' (first
    | (show pwOps ..; first | refine pops_nil ?_ | refine pops_n rfl ?_ | refine pops_w' rfl rfl ?_)
    | (show runGo ..; first | refine run_ev rfl rfl ?_ | refine run_call rfl ?_)
    | (show goOn ..; first | refine on_nop ?_ | refine on_new ?_ | refine on_put ?_ | refine on_born ?_ | refine on_grow ?_)
    | (show putGo ..; refine put_box ?_)
    | (show wGo ..; first | refine gw_tt ?_ | refine gw_ff ?_ | refine gw_tf ?_ | refine gw_ft ?_ | refine gw_u ?_ | refine gw_tn (fun _ => ?_) (fun _ => ?_) | refine gw_fn (fun _ => ?_) (fun _ => ?_) | refine gw_tb (fun _ => ?_) (fun _ => ?_) | refine gw_fb (fun _ => ?_) (fun _ => ?_))
    | (show dr ..; first | refine dr_nil ?_ | refine dr_n rfl ?_ | refine dr_w' rfl rfl ?_)
    | (show drGo ..; first | refine dr_ev rfl ?_ | refine dr_call rfl ?_)
    | (show drOn ..; first | refine dn_nop ?_ | refine dn_new ?_ | refine dn_put ?_ | refine dn_born ?_ | refine dn_grow ?_)
    | (show dputGo ..; refine dput_box ?_)
    | (refine And.intro (by kernel_rfl : okAll _ = true) ?_)
    | (show pwCode ..; first | refine pc_seq ?_ | refine pc_region ?_ | refine pc_draw (by kernel_rfl) ?_ | refine pc_ret ?_ | refine pc_skip ?_ | refine pc_block ?_ | refine pc_exit ?_ | refine pc_cond ?_)
    | (show condGo ..; first | refine cd_t ?_ | refine cd_f ?_ | refine cd_n (fun _ => ?_) (fun _ => ?_) | refine cd_b (fun _ => ?_) (fun _ => ?_))
    | refine th_normal ?_
    | refine th_ret ?_
    | refine th_exit ?_
    | refine th_pan ?_
    | refine bl_normal ?_
    | refine bl_exit ?_
    | refine bl_pass rfl ?_
    | refine bl_ret ?_
    | refine bl_pan ?_
    | (show retQ ..; first | refine rt_ret ?_ | refine rt_normal ?_)
    | refine rs_some ?_)
        all_goals first | rfl | (rename_i hc; first | rfl | (rw [hc]; rfl) | (rw [hla, hc]; rfl))
end Go.Proofs.Ytklpedooijlnlaa
end

section
namespace Go.Proofs.Ytklpedooijlnlaa
open Go Go.RowKit
set_option linter.unusedVariables false
set_option linter.unusedSimpArgs false
/-! Plain laws: rising lists of objects, by what is found in them. -/
def fnd (l : List Ob) (id : Int) : Option Ob := l.find? (fun x => x.id == id)
theorem RisO.tail {x : Ob} {l : List Ob} (h : RisO (x :: l)) : RisO l := fun i j a b ha hb hij => h (i + 1) (j + 1) a b (by simpa using ha) (by simpa using hb) (by omega)
theorem RisO.head {x : Ob} {l : List Ob} (h : RisO (x :: l)) : ∀ y ∈ l, x.id < y.id := fun y hy => by
  obtain ⟨k, hk⟩ := List.getElem?_of_mem hy
  exact h 0 (k + 1) x y rfl (by simpa using hk) (by omega)
theorem RisO.cons {x : Ob} {l : List Ob} (h1 : ∀ y ∈ l, x.id < y.id) (h2 : RisO l) : RisO (x :: l) := fun i j a b ha hb hij => by
  cases j with
  | zero => omega
  | succ j =>
    have hb' : l[j]? = some b := by simpa using hb
    cases i with
    | zero => simp at ha; subst ha; exact h1 b (List.mem_of_getElem? hb')
    | succ i => exact h2 i j a b (by simpa using ha) hb' (by omega)
theorem fnd_cons (x : Ob) (l : List Ob) (id : Int) : fnd (x :: l) id = if x.id = id then some x else fnd l id := by
  unfold fnd
  rw [List.find?_cons]
  by_cases h : x.id = id
  · rw [if_pos h]; simp [h]
  · rw [if_neg h]; have : (x.id == id) = false := by simpa using h
    rw [this]
theorem fnd_none {l : List Ob} {id : Int} (h : ∀ x ∈ l, x.id ≠ id) : fnd l id = none := by
  unfold fnd; rw [List.find?_eq_none]; intro x hx; simpa using h x hx
theorem fnd_some {l : List Ob} {id : Int} {x : Ob} (h : fnd l id = some x) : x ∈ l ∧ x.id = id := by
  unfold fnd at h
  exact ⟨List.mem_of_find?_eq_some h, by simpa using List.find?_some h⟩
theorem ris_ext {l k : List Ob} (hl : RisO l) (hk : RisO k) (h : ∀ id, fnd l id = fnd k id) : l = k := by
  induction l generalizing k with
  | nil =>
    cases k with
    | nil => rfl
    | cons y k => have := h y.id; rw [fnd_cons, if_pos rfl] at this; cases this
  | cons x l ih =>
    cases k with
    | nil => have := h x.id; rw [fnd_cons, if_pos rfl] at this; cases this
    | cons y k =>
      have hx := h x.id
      have hy := h y.id
      rw [fnd_cons, if_pos rfl, fnd_cons] at hx
      rw [fnd_cons, fnd_cons, if_pos rfl] at hy
      have e : x.id = y.id := by
        by_cases e : y.id = x.id
        · exact e.symm
        · rw [if_neg e] at hx
          obtain ⟨h1, _⟩ := fnd_some hx.symm
          have h2 := hk.head x h1
          rw [if_neg (fun q => e q.symm)] at hy
          obtain ⟨h3, _⟩ := fnd_some hy
          have h4 := hl.head y h3
          omega
      rw [if_pos e.symm] at hx
      cases hx
      rw [ih hl.tail hk.tail (fun id => ?_)]
      by_cases e2 : x.id = id
      · rw [fnd_none (fun z hz => by have := hl.head z hz; omega), fnd_none (fun z hz => by have := hk.head z hz; omega)]
      · have := h id
        rw [fnd_cons, fnd_cons, if_neg e2, if_neg e2] at this
        exact this
/-- With one, by recursion. -/
def insR (o : Ob) : List Ob → List Ob
  | [] => [o]
  | x :: l => if x.id < o.id then x :: insR o l else if x.id = o.id then o :: l else o :: x :: l
theorem insR_mem {o : Ob} {l : List Ob} {y : Ob} (h : y ∈ insR o l) : y = o ∨ y ∈ l := by
  induction l with
  | nil => simp [insR] at h; exact .inl h
  | cons x l ih =>
    unfold insR at h
    split at h
    · rcases List.mem_cons.1 h with rfl | h
      · exact .inr (by simp)
      · rcases ih h with h | h
        · exact .inl h
        · exact .inr (by simp [h])
    · split at h
      · rcases List.mem_cons.1 h with h | h
        · exact .inl h
        · exact .inr (by simp [h])
      · rcases List.mem_cons.1 h with h | h
        · exact .inl h
        · exact .inr h
theorem insR_ris {o : Ob} {l : List Ob} (h : RisO l) : RisO (insR o l) := by
  induction l with
  | nil => exact RisO.cons (fun y hy => by cases hy) (fun i j a b ha => by simp at ha)
  | cons x l ih =>
    unfold insR
    split
    · rename_i hx
      refine RisO.cons (fun y hy => ?_) (ih h.tail)
      rcases insR_mem hy with rfl | hy
      · exact hx
      · exact h.head y hy
    · split
      · rename_i h1 h2
        exact RisO.cons (fun y hy => by have := h.head y hy; omega) h.tail
      · rename_i h1 h2
        refine RisO.cons (fun y hy => ?_) h
        rcases List.mem_cons.1 hy with rfl | hy
        · omega
        · have := h.head y hy; omega
theorem insR_fnd {o : Ob} {l : List Ob} (h : RisO l) (id : Int) : fnd (insR o l) id = if o.id = id then some o else fnd l id := by
  induction l with
  | nil => unfold insR; rw [fnd_cons]
  | cons x l ih =>
    unfold insR
    split
    · rename_i hx
      rw [fnd_cons, ih h.tail, fnd_cons]
      by_cases e1 : x.id = id
      · rw [if_pos e1, if_neg (by omega), if_pos e1]
      · rw [if_neg e1, if_neg e1]
    · split
      · rename_i h1 h2
        rw [fnd_cons, fnd_cons]
        by_cases e1 : o.id = id
        · rw [if_pos e1, if_pos e1]
        · rw [if_neg e1, if_neg e1, if_neg (by omega)]
      · rw [fnd_cons]
theorem posO_cons (x : Ob) (l : List Ob) (id : Int) : posO (x :: l) id = if x.id < id then posO l id + 1 else 0 := by
  unfold posO
  rw [List.takeWhile_cons]
  by_cases h : x.id < id
  · rw [if_pos (decide_eq_true h), if_pos h]; rfl
  · rw [if_neg (by simpa using h), if_neg h]; rfl
theorem hitO_cons (x : Ob) (l : List Ob) (id : Int) : hitO (x :: l) id = if x.id < id then hitO l id else x.id == id := by
  unfold hitO
  rw [posO_cons]
  by_cases h : x.id < id
  · rw [if_pos h, if_pos h]; simp only [List.getElem?_cons_succ]
  · rw [if_neg h, if_neg h]; simp only [List.getElem?_cons_zero]
theorem withL_ins (l : List Ob) (o : Ob) : withL l o = insR o l := by
  induction l with
  | nil => rfl
  | cons x l ih =>
    unfold withL insR
    rw [hitO_cons, posO_cons]
    by_cases h : x.id < o.id
    · simp only [if_pos h]
      rw [← ih]
      unfold withL
      split <;> simp
    · simp only [if_neg h]
      by_cases e : x.id = o.id
      · simp [e]
      · have : (x.id == o.id) = false := by simpa using e
        simp [this, e]
theorem hit_fnd {l : List Ob} (h : RisO l) (id : Int) : (if hitO l id = true then l[posO l id]? else none) = fnd l id := by
  induction l with
  | nil => rfl
  | cons x l ih =>
    rw [hitO_cons, posO_cons, fnd_cons]
    by_cases h1 : x.id < id
    · simp only [if_pos h1, List.getElem?_cons_succ]
      rw [ih h.tail, if_neg (by omega)]
    · simp only [if_neg h1, List.getElem?_cons_zero]
      by_cases e : x.id = id
      · simp [e]
      · have : (x.id == id) = false := by simpa using e
        simp only [this, Bool.false_eq_true, if_false, if_neg e]
        rw [fnd_none (fun y hy => by have := h.head y hy; omega)]
theorem hit_iff {l : List Ob} (h : RisO l) (id : Int) : hitO l id = (fnd l id).isSome := by
  rw [← hit_fnd h]
  cases hh : hitO l id with
  | true => obtain ⟨x, hx, _⟩ := hit_lt hh; simp [hx]
  | false => simp
theorem stp_done {o : Ob} : ∀ (l : List Ob) (acc : List Ob), (∀ x ∈ l, o.id < x.id) → l.foldl (stpR o) (acc, true) = (acc ++ l, true)
  | [], acc, _ => by simp
  | x :: l, acc, h => by
    have hx := h x (by simp)
    have e : stpR o (acc, true) x = (acc ++ [x], true) := by
      rw [stp_eq rfl rfl (beq_eq_false_iff_ne.2 (by omega : x.id ≠ o.id))]; rfl
    rw [List.foldl_cons, e, stp_done l _ (fun y hy => h y (by simp [hy]))]; simp
theorem putL_acc {o : Ob} : ∀ (l : List Ob) (acc : List Ob), RisO l → (let s := l.foldl (stpR o) (acc, false); if s.2 = true then s.1 else s.1 ++ [o]) = acc ++ insR o l
  | [], acc, _ => rfl
  | x :: l, acc, h => by
    rw [List.foldl_cons]
    unfold insR
    by_cases h1 : x.id < o.id
    · have e : stpR o (acc, false) x = (acc ++ [x], false) := by
        rw [stp_eq rfl (decide_eq_false (by omega)) (beq_eq_false_iff_ne.2 (by omega : x.id ≠ o.id))]; rfl
      rw [e, putL_acc l _ h.tail, if_pos h1]; simp
    · rw [if_neg h1]
      by_cases e1 : x.id = o.id
      · have e : stpR o (acc, false) x = (acc ++ [o], true) := by
          rw [stp_eq rfl (decide_eq_true (by omega)) (beq_iff_eq.2 e1)]; rfl
        rw [e, stp_done l _ (fun y hy => by have := h.head y hy; omega), if_pos e1]; simp
      · have e : stpR o (acc, false) x = (acc ++ [o] ++ [x], true) := by
          rw [stp_eq rfl (decide_eq_true (by omega)) (beq_eq_false_iff_ne.2 e1)]; rfl
        rw [e, stp_done l _ (fun y hy => by have := h.head y hy; omega), if_neg e1]; simp
theorem putL_ins {o : Ob} {l : List Ob} (h : RisO l) : putL l o = insR o l := by
  have := putL_acc (o := o) l [] h
  simpa [putL] using this
theorem insR_len (o : Ob) (l : List Ob) : (insR o l).length ≤ l.length + 1 := by
  induction l with
  | nil => simp [insR]
  | cons x l ih => unfold insR; split <;> (try split) <;> simp <;> omega
/-- Without one. -/
def outR (l : List Ob) (id : Int) : List Ob := l.filter (fun x => !(x.id == id))
theorem outR_ris {l : List Ob} (h : RisO l) (id : Int) : RisO (outR l id) := by
  induction l with
  | nil => exact h
  | cons x l ih =>
    unfold outR
    rw [List.filter_cons]
    split
    · refine RisO.cons (fun y hy => h.head y (List.mem_filter.1 hy).1) (ih h.tail)
    · exact ih h.tail
theorem outR_fnd {l : List Ob} (id k : Int) : fnd (outR l id) k = if id = k then none else fnd l k := by
  induction l with
  | nil => unfold outR fnd; simp
  | cons x l ih =>
    unfold outR
    rw [List.filter_cons]
    by_cases e : x.id = id
    · rw [if_neg (by simp [e])]
      have := ih
      unfold outR at this
      rw [this, fnd_cons]
      by_cases e2 : id = k
      · rw [if_pos e2, if_pos e2]
      · rw [if_neg e2, if_neg e2, if_neg (by omega)]
    · rw [if_pos (by simp [e]), fnd_cons]
      have := ih
      unfold outR at this
      rw [this, fnd_cons]
      by_cases e2 : id = k
      · rw [if_pos e2, if_pos e2, if_neg (by omega)]
      · rw [if_neg e2, if_neg e2]
theorem outR_len (l : List Ob) (id : Int) : (outR l id).length ≤ l.length := List.length_filter_le _ _
theorem withoutL_out {l : List Ob} (h : RisO l) (id : Int) : withoutL l id = outR l id := by
  induction l with
  | nil => rfl
  | cons x l ih =>
    unfold withoutL outR
    rw [hitO_cons, posO_cons, List.filter_cons]
    by_cases h1 : x.id < id
    · simp only [if_pos h1]
      have e : (x.id == id) = false := by simpa using (by omega : x.id ≠ id)
      have hr : (if (!(x.id == id)) = true then x :: l.filter (fun x => !(x.id == id)) else l.filter (fun x => !(x.id == id))) = x :: l.filter (fun x => !(x.id == id)) := if_pos (by rw [e]; rfl)
      have ht := ih h.tail
      unfold withoutL outR at ht
      rw [hr, ← ht]
      cases hitO l id <;> rfl
    · simp only [if_neg h1]
      have hgt : ∀ y ∈ l, (!(y.id == id)) = true := fun y hy => by have := h.head y hy; simp; omega
      by_cases e : x.id = id
      · rw [if_pos (by simpa using e), if_neg (by simp [e]), List.filter_eq_self.2 hgt]; rfl
      · rw [if_neg (by simpa using e), if_pos (by simp [e]), List.filter_eq_self.2 hgt]
/-- Fit worlds. -/
theorem fit_ris {w : Wd} (h : wdFit w = true) : RisO w.objects ∧ (∀ x ∈ w.objects, sound x = true) ∧ w.objects.length ≤ 1024 ∧ decide (w.time < 0) = false ∧ decide (w.time > 1099511627776) = false := by
  unfold wdFit at h
  simp only [Bool.and_eq_true, Bool.not_eq_true'] at h
  obtain ⟨⟨h1, h2, h3⟩, h4⟩ := h
  have hat := allB_iff.1 h4
  have snd : ∀ x ∈ w.objects, sound x = true := fun x hx => by
    obtain ⟨k, hk⟩ := List.getElem?_of_mem hx
    have := hat k (len_lt hk)
    unfold obAt at this; rw [hk] at this
    simp only [Bool.and_eq_true] at this
    exact this.1
  have adj : ∀ (k : Nat) (x y : Ob), w.objects[k]? = some x → w.objects[k + 1]? = some y → x.id < y.id := fun k x y hx hy => by
    have := hat (k + 1) (len_lt hy)
    unfold obAt at this; rw [hy] at this
    simp only [hx, Bool.and_eq_true, Bool.not_eq_true', decide_eq_false_iff_not] at this
    omega
  have far : ∀ (d i : Nat) (x y : Ob), w.objects[i]? = some x → w.objects[i + d + 1]? = some y → x.id < y.id := by
    intro d
    induction d with
    | zero => intro i x y hx hy; exact adj i x y hx hy
    | succ d ih =>
      intro i x y hx hy
      obtain ⟨z, hz⟩ := lt_len (by have := len_lt hy; omega : i + d + 1 < w.objects.length)
      have h1 := ih i x z hx hz
      have h2 := adj (i + d + 1) z y hz (by rw [show i + d + 1 + 1 = i + (d + 1) + 1 by omega]; exact hy)
      omega
  refine ⟨fun i j x y hx hy hij => far (j - i - 1) i x y hx (by rw [show i + (j - i - 1) + 1 = j by omega]; exact hy), snd, ?_, h1, h2⟩
  have := of_decide_eq_false h3; omega
theorem ris_fit {w : Wd} (hr : RisO w.objects) (hs : ∀ x ∈ w.objects, sound x = true) (hl : w.objects.length ≤ 1024) (h1 : decide (w.time < 0) = false) (h2 : decide (w.time > 1099511627776) = false) : wdFit w = true := by
  unfold wdFit
  rw [h1, h2, decide_eq_false (by omega : ¬ ((w.objects.length : Int) > 1024))]
  simp only [Bool.not_false, Bool.true_and]
  refine allB_true fun k hk => ?_
  obtain ⟨x, hx⟩ := lt_len hk
  unfold obAt; rw [hx]
  simp only [hs x (List.mem_of_getElem? hx), Bool.true_and]
  cases k with
  | zero => rfl
  | succ j =>
    obtain ⟨y, hy⟩ := lt_len (by omega : j < w.objects.length)
    simp only [hy]
    have := hr j (j + 1) y x hy hx (by omega)
    simp; omega
theorem findO_eq {w : Wd} (h : RisO w.objects) (id : Int) : findO w id = findR w id := by
  have := hit_fnd h id
  unfold findO findR
  unfold fnd at this
  cases hh : hitO w.objects id with
  | true =>
    obtain ⟨x, hx, _⟩ := hit_lt hh
    rw [hh, if_pos rfl, hx] at this
    rw [← this, if_pos rfl, hx]; rfl
  | false =>
    rw [hh, if_neg (by simp)] at this
    rw [← this, if_neg (by simp)]
theorem findR_fnd (w : Wd) (id : Int) : findR w id = match fnd w.objects id with | some x => (x, true) | none => (Ob.zero, false) := rfl
theorem putW_eq {w : Wd} {o : Ob} (h : RisO w.objects) (hl : w.objects.length ≤ 1000) : putW w o = { w with objects := insR o w.objects } ∧ putR w o = { w with objects := insR o w.objects } := by
  have := insR_len o w.objects
  unfold putW putR
  rw [withL_ins, putL_ins h, if_pos (decide_eq_true (by omega)), if_neg (by simp; omega)]
  exact ⟨rfl, rfl⟩
theorem dropW_eq {w : Wd} (id : Int) (h : RisO w.objects) : dropW w id = { w with objects := outR w.objects id } ∧ dropR w id = { w with objects := outR w.objects id } := by
  unfold dropW dropR
  rw [withoutL_out h]
  exact ⟨rfl, rfl⟩
end Go.Proofs.Ytklpedooijlnlaa
end

section
namespace Go.Proofs.Ytklpedooijlnlaa
open Go Go.RowKit
set_option linter.unusedVariables false
set_option linter.unusedSimpArgs false
set_option maxHeartbeats 16000000
set_option maxRecDepth 100000
/-! Worlds with one object more or less: the laws. -/
def Wd.ins (w : Wd) (o : Ob) : Wd := { w with objects := insR o w.objects }
def Wd.out (w : Wd) (id : Int) : Wd := { w with objects := outR w.objects id }
theorem ins_ris {w : Wd} (h : RisO w.objects) (o : Ob) : RisO (w.ins o).objects := insR_ris h
theorem out_ris {w : Wd} (h : RisO w.objects) (id : Int) : RisO (w.out id).objects := outR_ris h id
theorem ins_len (w : Wd) (o : Ob) : (w.ins o).objects.length ≤ w.objects.length + 1 := insR_len o _
theorem out_len (w : Wd) (id : Int) : (w.out id).objects.length ≤ w.objects.length := outR_len _ id
theorem ins_L {w : Wd} (h : w.L) {o : Ob} (ho : o.L) (hl : o.label.length ≤ 900000) (hn : w.objects.length ≤ 100000) : (w.ins o).L := by
  refine ⟨by have := ins_len w o; omega, fun x hx => ?_⟩
  rcases insR_mem hx with rfl | hx
  · exact ⟨ho, hl⟩
  · exact h.2 x hx
theorem out_L {w : Wd} (h : w.L) (id : Int) : (w.out id).L := ⟨Nat.le_trans (out_len w id) h.1, fun x hx => h.2 x (List.mem_filter.1 hx).1⟩
theorem wd_ext {a b : Wd} (h1 : a.time = b.time) (h2 : a.key = b.key) (h3 : a.root = b.root) (h4 : RisO a.objects) (h5 : RisO b.objects) (h6 : ∀ id, fnd a.objects id = fnd b.objects id) : a = b := by
  obtain ⟨t, k, r, l⟩ := a
  obtain ⟨t', k', r', l'⟩ := b
  simp only at h1 h2 h3
  subst h1 h2 h3
  have := ris_ext h4 h5 h6
  simp only at this
  rw [this]
theorem few_len {w : Wd} (h : fewWd w = true) : w.objects.length ≤ 20 := by
  unfold fewWd at h
  simp only [Bool.and_eq_true, Bool.not_eq_true', decide_eq_false_iff_not] at h
  omega
theorem put_c (w : Wd) (o : Ob) (hr : RisO w.objects) (hl : w.objects.length ≤ 1000) : Pure Try.prog 60 [.agg (Wd.enc w), .agg (Ob.enc o)] (.agg (Wd.enc (w.ins o))) := by
  have := obj_put w o (by omega) hr
  rw [(putW_eq hr hl).1] at this; exact this
theorem putR_c (w : Wd) (o : Ob) (hr : RisO w.objects) (hl : w.objects.length ≤ 1000) : Pure Try.prog 64 [.agg (Wd.enc w), .agg (Ob.enc o)] (.agg (Wd.enc (w.ins o))) := by
  have := r13_put w o (by omega)
  rw [(putW_eq hr hl).2] at this; exact this
theorem drop_c (w : Wd) (id : Int) (hr : RisO w.objects) (hl : w.objects.length ≤ 1000) : Pure Try.prog 61 [.agg (Wd.enc w), .int .u64 id] (.agg (Wd.enc (w.out id))) := by
  have := obj_drop w id (by omega) hr
  rw [(dropW_eq id hr).1] at this; exact this
theorem dropR_c (w : Wd) (id : Int) (hr : RisO w.objects) (hl : w.objects.length ≤ 1000) : Pure Try.prog 65 [.agg (Wd.enc w), .int .u64 id] (.agg (Wd.enc (w.out id))) := by
  have := r13_drop w id (by omega)
  rw [(dropW_eq id hr).2] at this; exact this
theorem find_c (w : Wd) (id : Int) (hr : RisO w.objects) (hl : w.objects.length ≤ 1000) : Pure Try.prog 62 [.agg (Wd.enc w), .int .u64 id] (.tup [.agg (Ob.enc (findR w id).1), .bool (findR w id).2]) := by
  have := obj_find w id (by omega) hr
  rw [findO_eq hr] at this; exact this
theorem same_c {a b : Wd} (ha : a.L) (h : a = b) : Pure Try.prog 48 [.agg (Wd.enc a), .agg (Wd.enc b)] (.bool true) := by
  subst h
  have := r13_sameW a a ha
  rw [sameWd_refl] at this; exact this
theorem one_c {a b : Ob} (ha : a.L) (h : a = b) : Pure Try.prog 46 [.agg (Ob.enc a), .agg (Ob.enc b)] (.bool true) := by
  subst h
  have := r13_sameOne a a ha
  rw [sameOb_refl] at this; exact this
theorem Ob.zeroL : Ob.zero.L := ⟨by decide, by decide, by decide, by decide, Th.zeroL, Gt.zeroL, by decide, by decide⟩
theorem findR_L {w : Wd} (h : w.L) (id : Int) : (findR w id).1.L := by
  rw [findR_fnd]
  cases hf : fnd w.objects id with
  | none => exact Ob.zeroL
  | some x => exact (h.2 x (fnd_some hf).1).1
theorem fit_c {w : Wd} (hw : w.L) (h : wdFit w = true) : Pure Try.prog 44 [.agg (Wd.enc w)] (.bool true) := by
  have := r13_fit w hw
  rw [h] at this; exact this
theorem ins_fit {w : Wd} (h : wdFit w = true) {o : Ob} (ho : sound o = true) (hn : w.objects.length ≤ 1000) : wdFit (w.ins o) = true := by
  obtain ⟨h1, h2, h3, h4, h5⟩ := fit_ris h
  refine ris_fit (ins_ris h1 o) (fun x hx => ?_) (by have := ins_len w o; omega) h4 h5
  rcases insR_mem hx with rfl | hx
  · exact ho
  · exact h2 x hx
theorem out_fit {w : Wd} (h : wdFit w = true) (id : Int) : wdFit (w.out id) = true := by
  obtain ⟨h1, h2, h3, h4, h5⟩ := fit_ris h
  exact ris_fit (out_ris h1 id) (fun x hx => h2 x (List.mem_filter.1 hx).1) (Nat.le_trans (out_len w id) h3) h4 h5
attribute [local irreducible] pwOps dr pwCode Ex.then Ex.inBlock retQ okAll drawOk Pure CSat evOp calleeP rdOf upd hset strip sp0 cut envL heapL Again Keep BdL evBs AgainK KeepK
theorem law13_puts (w : Wd) (o : Ob) (id : Int) (hw : w.wf) (ho : o.wf) (hi : U id) : Pure Try.prog 12 [.agg (Wd.enc w), .agg (Ob.enc o), .int .u64 id] (.bool true) := by
  have hk := law13_awake
  have b1 := law13_few w hw.2.2.2.2
  have b2 := law13_brief o
  have lo := Ob.lens ho
  have b3 : fewWd w = true → Pure Try.prog 44 [.agg (Wd.enc w)] (.bool (wdFit w)) := fun h => r13_fit w (few_L hw h)
  have b4 : briefOb o = true → Pure Try.prog 28 [.agg (Ob.enc o)] (.bool (sound o)) := fun h => r13_sound o lo (by have := (brief_lens h).1; omega)
  refine pureI (by kernel_rfl) (by simp only [go_sem, *]) (by simp only [go_sem, *]) Try.func12 Try.results12 rfl (by simp [Try.ntmps12]) (by kernel_rfl) ?_
  repeat' (first
    | (show pwOps ..; first | refine pops_nil ?_ | refine pops_n rfl ?_ | refine pops_w' rfl rfl ?_)
    | (show runGo ..; first | refine run_ev rfl rfl ?_ | refine run_call rfl ?_)
    | (show goOn ..; first | refine on_nop ?_ | refine on_new ?_ | refine on_put ?_ | refine on_born ?_ | refine on_grow ?_)
    | (show putGo ..; refine put_box ?_)
    | (show callGo ..; (refine call_pure (r := ?_) ?_ ?_; rotate_left 1; (focus first | exact b1 | exact b2 | exact b3 (by assumption) | exact b4 (by assumption) | exact hk)))
    | (show wGo ..; first | refine gw_tt ?_ | refine gw_ff ?_ | refine gw_tf ?_ | refine gw_ft ?_ | refine gw_u ?_ | refine gw_tn (fun _ => ?_) (fun _ => ?_) | refine gw_fn (fun _ => ?_) (fun _ => ?_) | refine gw_tb (fun _ => ?_) (fun _ => ?_) | refine gw_fb (fun _ => ?_) (fun _ => ?_))
    | (show dr ..; first | refine dr_nil ?_ | refine dr_n rfl ?_ | refine dr_w' rfl rfl ?_)
    | (show drGo ..; first | refine dr_ev rfl ?_ | refine dr_call rfl ?_)
    | (show drOn ..; first | refine dn_nop ?_ | refine dn_new ?_ | refine dn_put ?_ | refine dn_born ?_ | refine dn_grow ?_)
    | (show dputGo ..; refine dput_box ?_)
    | (show dcallGo ..; (refine dcall_pure (r := ?_) ?_ ?_; rotate_left 1; (focus first | exact b1 | exact b2 | exact b3 (by assumption) | exact b4 (by assumption) | exact hk)))
    | (refine And.intro (by kernel_rfl : okAll _ = true) ?_)
    | (show pwCode ..; first | refine pc_seq ?_ | refine pc_region ?_ | refine pc_draw (by kernel_rfl) ?_ | refine pc_ret ?_ | refine pc_skip ?_ | refine pc_block ?_ | refine pc_exit ?_ | refine pc_cond ?_)
    | (show condGo ..; first | refine cd_t ?_ | refine cd_f ?_ | refine cd_n (fun _ => ?_) (fun _ => ?_) | refine cd_b (fun _ => ?_) (fun _ => ?_))
    | refine th_normal ?_
    | refine th_ret ?_
    | refine th_exit ?_
    | refine th_pan ?_
    | refine bl_normal ?_
    | refine bl_exit ?_
    | refine bl_pass rfl ?_
    | refine bl_ret ?_
    | refine bl_pan ?_
    | (show retQ ..; first | refine rt_ret ?_ | refine rt_normal ?_)
    | refine rs_some ?_)
  all_goals first | rfl | skip
  have h1 : fewWd w = true := by assumption
  have h2 : briefOb o = true := by assumption
  have h3 : wdFit w = true := by assumption
  have h4 : sound o = true := by assumption
  obtain ⟨hr, hsnd, _⟩ := fit_ris h3
  have hl := few_len h1
  have lw := few_L hw h1
  have hlab := (brief_lens h2).1
  have li := ins_L lw lo (by omega) (by omega)
  have ld := out_L lw id
  have c1 := find_c w id hr (by omega)
  have c2 := r13_find w id (by omega)
  have c3 := put_c w o hr (by omega)
  have c4 := putR_c w o hr (by omega)
  have c5 := drop_c w id hr (by omega)
  have c6 := dropR_c w id hr (by omega)
  have c7 := one_c (findR_L lw id) rfl
  have c8 := same_c li rfl
  have c9 := same_c ld rfl
  have c10 := fit_c li (ins_fit h3 h4 (by omega))
  have c11 := fit_c ld (out_fit h3 id)
  clear h1 h2 h3 h4
  repeat' (first
    | (show pwOps ..; first | refine pops_nil ?_ | refine pops_n rfl ?_ | refine pops_w' rfl rfl ?_)
    | (show runGo ..; first | refine run_ev rfl rfl ?_ | refine run_call rfl ?_)
    | (show goOn ..; first | refine on_nop ?_ | refine on_new ?_ | refine on_put ?_ | refine on_born ?_ | refine on_grow ?_)
    | (show putGo ..; refine put_box ?_)
    | (show callGo ..; (refine call_pure (r := ?_) ?_ ?_; rotate_left 1; (focus first | exact c1 | exact c2 | exact c3 | exact c4 | exact c5 | exact c6 | exact c7 | exact c8 | exact c9 | exact c10 | exact c11 | exact hk)))
    | (show wGo ..; first | refine gw_tt ?_ | refine gw_ff ?_ | refine gw_tf ?_ | refine gw_ft ?_ | refine gw_u ?_ | refine gw_tn (fun _ => ?_) (fun _ => ?_) | refine gw_fn (fun _ => ?_) (fun _ => ?_) | refine gw_tb (fun _ => ?_) (fun _ => ?_) | refine gw_fb (fun _ => ?_) (fun _ => ?_))
    | (show dr ..; first | refine dr_nil ?_ | refine dr_n rfl ?_ | refine dr_w' rfl rfl ?_)
    | (show drGo ..; first | refine dr_ev rfl ?_ | refine dr_call rfl ?_)
    | (show drOn ..; first | refine dn_nop ?_ | refine dn_new ?_ | refine dn_put ?_ | refine dn_born ?_ | refine dn_grow ?_)
    | (show dputGo ..; refine dput_box ?_)
    | (show dcallGo ..; (refine dcall_pure (r := ?_) ?_ ?_; rotate_left 1; (focus first | exact c1 | exact c2 | exact c3 | exact c4 | exact c5 | exact c6 | exact c7 | exact c8 | exact c9 | exact c10 | exact c11 | exact hk)))
    | (refine And.intro (by kernel_rfl : okAll _ = true) ?_)
    | (show pwCode ..; first | refine pc_seq ?_ | refine pc_region ?_ | refine pc_draw (by kernel_rfl) ?_ | refine pc_ret ?_ | refine pc_skip ?_ | refine pc_block ?_ | refine pc_exit ?_ | refine pc_cond ?_)
    | (show condGo ..; first | refine cd_t ?_ | refine cd_f ?_ | refine cd_n (fun _ => ?_) (fun _ => ?_) | refine cd_b (fun _ => ?_) (fun _ => ?_))
    | refine th_normal ?_
    | refine th_ret ?_
    | refine th_exit ?_
    | refine th_pan ?_
    | refine bl_normal ?_
    | refine bl_exit ?_
    | refine bl_pass rfl ?_
    | refine bl_ret ?_
    | refine bl_pan ?_
    | (show retQ ..; first | refine rt_ret ?_ | refine rt_normal ?_)
    | refine rs_some ?_)
  all_goals rfl
theorem law13_finds (w : Wd) (o : Ob) (id : Int) (hw : w.wf) (ho : o.wf) (hi : U id) : Pure Try.prog 13 [.agg (Wd.enc w), .agg (Ob.enc o), .int .u64 id] (.bool true) := by
  have hk := law13_awake
  have b1 := law13_few w hw.2.2.2.2
  have b2 := law13_brief o
  have lo := Ob.lens ho
  have b3 : fewWd w = true → Pure Try.prog 44 [.agg (Wd.enc w)] (.bool (wdFit w)) := fun h => r13_fit w (few_L hw h)
  have b4 : briefOb o = true → Pure Try.prog 28 [.agg (Ob.enc o)] (.bool (sound o)) := fun h => r13_sound o lo (by have := (brief_lens h).1; omega)
  refine pureI (by kernel_rfl) (by simp only [go_sem, *]) (by simp only [go_sem, *]) Try.func13 Try.results13 rfl (by simp [Try.ntmps13]) (by kernel_rfl) ?_
  repeat' (first
    | (show pwOps ..; first | refine pops_nil ?_ | refine pops_n rfl ?_ | refine pops_w' rfl rfl ?_)
    | (show runGo ..; first | refine run_ev rfl rfl ?_ | refine run_call rfl ?_)
    | (show goOn ..; first | refine on_nop ?_ | refine on_new ?_ | refine on_put ?_ | refine on_born ?_ | refine on_grow ?_)
    | (show putGo ..; refine put_box ?_)
    | (show callGo ..; (refine call_pure (r := ?_) ?_ ?_; rotate_left 1; (focus first | exact b1 | exact b2 | exact b3 (by assumption) | exact b4 (by assumption) | exact hk)))
    | (show wGo ..; first | refine gw_tt ?_ | refine gw_ff ?_ | refine gw_tf ?_ | refine gw_ft ?_ | refine gw_u ?_ | refine gw_tn (fun _ => ?_) (fun _ => ?_) | refine gw_fn (fun _ => ?_) (fun _ => ?_) | refine gw_tb (fun _ => ?_) (fun _ => ?_) | refine gw_fb (fun _ => ?_) (fun _ => ?_))
    | (show dr ..; first | refine dr_nil ?_ | refine dr_n rfl ?_ | refine dr_w' rfl rfl ?_)
    | (show drGo ..; first | refine dr_ev rfl ?_ | refine dr_call rfl ?_)
    | (show drOn ..; first | refine dn_nop ?_ | refine dn_new ?_ | refine dn_put ?_ | refine dn_born ?_ | refine dn_grow ?_)
    | (show dputGo ..; refine dput_box ?_)
    | (show dcallGo ..; (refine dcall_pure (r := ?_) ?_ ?_; rotate_left 1; (focus first | exact b1 | exact b2 | exact b3 (by assumption) | exact b4 (by assumption) | exact hk)))
    | (refine And.intro (by kernel_rfl : okAll _ = true) ?_)
    | (show pwCode ..; first | refine pc_seq ?_ | refine pc_region ?_ | refine pc_draw (by kernel_rfl) ?_ | refine pc_ret ?_ | refine pc_skip ?_ | refine pc_block ?_ | refine pc_exit ?_ | refine pc_cond ?_)
    | (show condGo ..; first | refine cd_t ?_ | refine cd_f ?_ | refine cd_n (fun _ => ?_) (fun _ => ?_) | refine cd_b (fun _ => ?_) (fun _ => ?_))
    | refine th_normal ?_
    | refine th_ret ?_
    | refine th_exit ?_
    | refine th_pan ?_
    | refine bl_normal ?_
    | refine bl_exit ?_
    | refine bl_pass rfl ?_
    | refine bl_ret ?_
    | refine bl_pan ?_
    | (show retQ ..; first | refine rt_ret ?_ | refine rt_normal ?_)
    | refine rs_some ?_)
  all_goals first | rfl | skip
  have h1 : fewWd w = true := by assumption
  have h2 : briefOb o = true := by assumption
  have h3 : wdFit w = true := by assumption
  have h4 : sound o = true := by assumption
  obtain ⟨hr, hsnd, _⟩ := fit_ris h3
  have hl := few_len h1
  have lw := few_L hw h1
  have hlab := (brief_lens h2).1
  have li := ins_L lw lo (by omega) (by omega)
  have hri := ins_ris hr o
  have hli := ins_len w o
  have ld := out_L lw id
  have c1 := put_c w o hr (by omega)
  have c2 := find_c (w.ins o) o.id hri (by omega)
  have e2 : findR (w.ins o) o.id = (o, true) := by rw [findR_fnd]; unfold Wd.ins; simp only [insR_fnd hr, if_true]
  rw [e2] at c2
  have c3 := one_c lo (rfl : o = o)
  have c4 := find_c w id hr (by omega)
  have c5 := find_c (w.ins o) id hri (by omega)
  have c6 := drop_c (w.ins o) o.id hri (by omega)
  have c7 := find_c ((w.ins o).out o.id) o.id (out_ris hri _) (by have := out_len (w.ins o) o.id; omega)
  have e7 : findR ((w.ins o).out o.id) o.id = (Ob.zero, false) := by rw [findR_fnd]; unfold Wd.out; simp only [outR_fnd, if_true]
  rw [e7] at c7
  have c8 := drop_c w id hr (by omega)
  have c9 := one_c (findR_L lw id) rfl
  have e5 : ¬ id = o.id → findR (w.ins o) id = findR w id := fun h => by
    rw [findR_fnd, findR_fnd]; unfold Wd.ins; simp only [insR_fnd hr, if_neg (fun q => h q.symm : ¬ o.id = id)]
  clear h1 h2 h3 h4
  cases hf : fnd w.objects id with
  | some y =>
    have e4 : findR w id = (y, true) := by rw [findR_fnd, hf]
    obtain ⟨hy, hyid⟩ := fnd_some hf
    rw [e4] at c4 c9 e5
    have ly := (lw.2 y hy)
    have c10 := put_c w y hr (by omega)
    have e10 : w.ins y = w := wd_ext rfl rfl rfl (ins_ris hr y) hr (fun k => by
      show fnd (insR y w.objects) k = _
      rw [insR_fnd hr]
      by_cases h : y.id = k
      · rw [if_pos h, ← h, hyid, hf]
      · rw [if_neg h])
    rw [e10] at c10
    have c11 := same_c lw rfl
    clear e4 e2 e7 e10 hf
    by_cases hid : id = o.id
    · have hb : (id == o.id) = true := by simpa using hid
      clear e5 hid
      repeat' (first
    | (show pwOps ..; first | refine pops_nil ?_ | refine pops_n rfl ?_ | refine pops_w' rfl rfl ?_)
    | (show runGo ..; first | refine run_ev rfl rfl ?_ | refine run_call rfl ?_)
    | (show goOn ..; first | refine on_nop ?_ | refine on_new ?_ | refine on_put ?_ | refine on_born ?_ | refine on_grow ?_)
    | (show putGo ..; refine put_box ?_)
    | (show callGo ..; (refine call_pure (r := ?_) ?_ ?_; rotate_left 1; (focus first | exact c1 | exact c2 | exact c3 | exact c4 | exact c5 | exact c6 | exact c7 | exact c8 | exact c9 | exact c10 | exact c11 | exact hk)))
    | (show wGo ..; first | refine gw_tt ?_ | refine gw_ff ?_ | refine gw_tf ?_ | refine gw_ft ?_ | refine gw_u ?_ | refine gw_tn (fun _ => ?_) (fun _ => ?_) | refine gw_fn (fun _ => ?_) (fun _ => ?_) | refine gw_tb (fun _ => ?_) (fun _ => ?_) | refine gw_fb (fun _ => ?_) (fun _ => ?_))
    | (show dr ..; first | refine dr_nil ?_ | refine dr_n rfl ?_ | refine dr_w' rfl rfl ?_)
    | (show drGo ..; first | refine dr_ev rfl ?_ | refine dr_call rfl ?_)
    | (show drOn ..; first | refine dn_nop ?_ | refine dn_new ?_ | refine dn_put ?_ | refine dn_born ?_ | refine dn_grow ?_)
    | (show dputGo ..; refine dput_box ?_)
    | (show dcallGo ..; (refine dcall_pure (r := ?_) ?_ ?_; rotate_left 1; (focus first | exact c1 | exact c2 | exact c3 | exact c4 | exact c5 | exact c6 | exact c7 | exact c8 | exact c9 | exact c10 | exact c11 | exact hk)))
    | (refine And.intro (by kernel_rfl : okAll _ = true) ?_)
    | (show pwCode ..; first | refine pc_seq ?_ | refine pc_region ?_ | refine pc_draw (by kernel_rfl) ?_ | refine pc_ret ?_ | refine pc_skip ?_ | refine pc_block ?_ | refine pc_exit ?_ | refine pc_cond ?_)
    | (show condGo ..; first | refine cd_t ?_ | refine cd_f ?_ | refine cd_n (fun _ => ?_) (fun _ => ?_) | refine cd_b (fun _ => ?_) (fun _ => ?_))
    | refine th_normal ?_
    | refine th_ret ?_
    | refine th_exit ?_
    | refine th_pan ?_
    | refine bl_normal ?_
    | refine bl_exit ?_
    | refine bl_pass rfl ?_
    | refine bl_ret ?_
    | refine bl_pan ?_
    | (show retQ ..; first | refine rt_ret ?_ | refine rt_normal ?_)
    | refine rs_some ?_)
      all_goals rfl
    · have hb : (id == o.id) = false := by simpa using hid
      rw [e5 hid] at c5
      clear e5 hid
      repeat' (first
    | (show pwOps ..; first | refine pops_nil ?_ | refine pops_n rfl ?_ | refine pops_w' rfl rfl ?_)
    | (show runGo ..; first | refine run_ev rfl rfl ?_ | refine run_call rfl ?_)
    | (show goOn ..; first | refine on_nop ?_ | refine on_new ?_ | refine on_put ?_ | refine on_born ?_ | refine on_grow ?_)
    | (show putGo ..; refine put_box ?_)
    | (show callGo ..; (refine call_pure (r := ?_) ?_ ?_; rotate_left 1; (focus first | exact c1 | exact c2 | exact c3 | exact c4 | exact c5 | exact c6 | exact c7 | exact c8 | exact c9 | exact c10 | exact c11 | exact hk)))
    | (show wGo ..; first | refine gw_tt ?_ | refine gw_ff ?_ | refine gw_tf ?_ | refine gw_ft ?_ | refine gw_u ?_ | refine gw_tn (fun _ => ?_) (fun _ => ?_) | refine gw_fn (fun _ => ?_) (fun _ => ?_) | refine gw_tb (fun _ => ?_) (fun _ => ?_) | refine gw_fb (fun _ => ?_) (fun _ => ?_))
    | (show dr ..; first | refine dr_nil ?_ | refine dr_n rfl ?_ | refine dr_w' rfl rfl ?_)
    | (show drGo ..; first | refine dr_ev rfl ?_ | refine dr_call rfl ?_)
    | (show drOn ..; first | refine dn_nop ?_ | refine dn_new ?_ | refine dn_put ?_ | refine dn_born ?_ | refine dn_grow ?_)
    | (show dputGo ..; refine dput_box ?_)
    | (show dcallGo ..; (refine dcall_pure (r := ?_) ?_ ?_; rotate_left 1; (focus first | exact c1 | exact c2 | exact c3 | exact c4 | exact c5 | exact c6 | exact c7 | exact c8 | exact c9 | exact c10 | exact c11 | exact hk)))
    | (refine And.intro (by kernel_rfl : okAll _ = true) ?_)
    | (show pwCode ..; first | refine pc_seq ?_ | refine pc_region ?_ | refine pc_draw (by kernel_rfl) ?_ | refine pc_ret ?_ | refine pc_skip ?_ | refine pc_block ?_ | refine pc_exit ?_ | refine pc_cond ?_)
    | (show condGo ..; first | refine cd_t ?_ | refine cd_f ?_ | refine cd_n (fun _ => ?_) (fun _ => ?_) | refine cd_b (fun _ => ?_) (fun _ => ?_))
    | refine th_normal ?_
    | refine th_ret ?_
    | refine th_exit ?_
    | refine th_pan ?_
    | refine bl_normal ?_
    | refine bl_exit ?_
    | refine bl_pass rfl ?_
    | refine bl_ret ?_
    | refine bl_pan ?_
    | (show retQ ..; first | refine rt_ret ?_ | refine rt_normal ?_)
    | refine rs_some ?_)
      all_goals rfl
  | none =>
    have e4 : findR w id = (Ob.zero, false) := by rw [findR_fnd, hf]
    rw [e4] at c4 c9 e5
    have e10 : w.out id = w := wd_ext rfl rfl rfl (out_ris hr id) hr (fun k => by
      show fnd (outR w.objects id) k = _
      rw [outR_fnd]
      by_cases h : id = k
      · rw [if_pos h, ← h, hf]
      · rw [if_neg h])
    rw [e10] at c8
    have c11 := same_c lw rfl
    clear e4 e2 e7 e10 hf
    by_cases hid : id = o.id
    · have hb : (id == o.id) = true := by simpa using hid
      clear e5 hid
      repeat' (first
    | (show pwOps ..; first | refine pops_nil ?_ | refine pops_n rfl ?_ | refine pops_w' rfl rfl ?_)
    | (show runGo ..; first | refine run_ev rfl rfl ?_ | refine run_call rfl ?_)
    | (show goOn ..; first | refine on_nop ?_ | refine on_new ?_ | refine on_put ?_ | refine on_born ?_ | refine on_grow ?_)
    | (show putGo ..; refine put_box ?_)
    | (show callGo ..; (refine call_pure (r := ?_) ?_ ?_; rotate_left 1; (focus first | exact c1 | exact c2 | exact c3 | exact c4 | exact c5 | exact c6 | exact c7 | exact c8 | exact c9 | exact c11 | exact hk)))
    | (show wGo ..; first | refine gw_tt ?_ | refine gw_ff ?_ | refine gw_tf ?_ | refine gw_ft ?_ | refine gw_u ?_ | refine gw_tn (fun _ => ?_) (fun _ => ?_) | refine gw_fn (fun _ => ?_) (fun _ => ?_) | refine gw_tb (fun _ => ?_) (fun _ => ?_) | refine gw_fb (fun _ => ?_) (fun _ => ?_))
    | (show dr ..; first | refine dr_nil ?_ | refine dr_n rfl ?_ | refine dr_w' rfl rfl ?_)
    | (show drGo ..; first | refine dr_ev rfl ?_ | refine dr_call rfl ?_)
    | (show drOn ..; first | refine dn_nop ?_ | refine dn_new ?_ | refine dn_put ?_ | refine dn_born ?_ | refine dn_grow ?_)
    | (show dputGo ..; refine dput_box ?_)
    | (show dcallGo ..; (refine dcall_pure (r := ?_) ?_ ?_; rotate_left 1; (focus first | exact c1 | exact c2 | exact c3 | exact c4 | exact c5 | exact c6 | exact c7 | exact c8 | exact c9 | exact c11 | exact hk)))
    | (refine And.intro (by kernel_rfl : okAll _ = true) ?_)
    | (show pwCode ..; first | refine pc_seq ?_ | refine pc_region ?_ | refine pc_draw (by kernel_rfl) ?_ | refine pc_ret ?_ | refine pc_skip ?_ | refine pc_block ?_ | refine pc_exit ?_ | refine pc_cond ?_)
    | (show condGo ..; first | refine cd_t ?_ | refine cd_f ?_ | refine cd_n (fun _ => ?_) (fun _ => ?_) | refine cd_b (fun _ => ?_) (fun _ => ?_))
    | refine th_normal ?_
    | refine th_ret ?_
    | refine th_exit ?_
    | refine th_pan ?_
    | refine bl_normal ?_
    | refine bl_exit ?_
    | refine bl_pass rfl ?_
    | refine bl_ret ?_
    | refine bl_pan ?_
    | (show retQ ..; first | refine rt_ret ?_ | refine rt_normal ?_)
    | refine rs_some ?_)
      all_goals rfl
    · have hb : (id == o.id) = false := by simpa using hid
      rw [e5 hid] at c5
      clear e5 hid
      repeat' (first
    | (show pwOps ..; first | refine pops_nil ?_ | refine pops_n rfl ?_ | refine pops_w' rfl rfl ?_)
    | (show runGo ..; first | refine run_ev rfl rfl ?_ | refine run_call rfl ?_)
    | (show goOn ..; first | refine on_nop ?_ | refine on_new ?_ | refine on_put ?_ | refine on_born ?_ | refine on_grow ?_)
    | (show putGo ..; refine put_box ?_)
    | (show callGo ..; (refine call_pure (r := ?_) ?_ ?_; rotate_left 1; (focus first | exact c1 | exact c2 | exact c3 | exact c4 | exact c5 | exact c6 | exact c7 | exact c8 | exact c9 | exact c11 | exact hk)))
    | (show wGo ..; first | refine gw_tt ?_ | refine gw_ff ?_ | refine gw_tf ?_ | refine gw_ft ?_ | refine gw_u ?_ | refine gw_tn (fun _ => ?_) (fun _ => ?_) | refine gw_fn (fun _ => ?_) (fun _ => ?_) | refine gw_tb (fun _ => ?_) (fun _ => ?_) | refine gw_fb (fun _ => ?_) (fun _ => ?_))
    | (show dr ..; first | refine dr_nil ?_ | refine dr_n rfl ?_ | refine dr_w' rfl rfl ?_)
    | (show drGo ..; first | refine dr_ev rfl ?_ | refine dr_call rfl ?_)
    | (show drOn ..; first | refine dn_nop ?_ | refine dn_new ?_ | refine dn_put ?_ | refine dn_born ?_ | refine dn_grow ?_)
    | (show dputGo ..; refine dput_box ?_)
    | (show dcallGo ..; (refine dcall_pure (r := ?_) ?_ ?_; rotate_left 1; (focus first | exact c1 | exact c2 | exact c3 | exact c4 | exact c5 | exact c6 | exact c7 | exact c8 | exact c9 | exact c11 | exact hk)))
    | (refine And.intro (by kernel_rfl : okAll _ = true) ?_)
    | (show pwCode ..; first | refine pc_seq ?_ | refine pc_region ?_ | refine pc_draw (by kernel_rfl) ?_ | refine pc_ret ?_ | refine pc_skip ?_ | refine pc_block ?_ | refine pc_exit ?_ | refine pc_cond ?_)
    | (show condGo ..; first | refine cd_t ?_ | refine cd_f ?_ | refine cd_n (fun _ => ?_) (fun _ => ?_) | refine cd_b (fun _ => ?_) (fun _ => ?_))
    | refine th_normal ?_
    | refine th_ret ?_
    | refine th_exit ?_
    | refine th_pan ?_
    | refine bl_normal ?_
    | refine bl_exit ?_
    | refine bl_pass rfl ?_
    | refine bl_ret ?_
    | refine bl_pan ?_
    | (show retQ ..; first | refine rt_ret ?_ | refine rt_normal ?_)
    | refine rs_some ?_)
      all_goals rfl
theorem law13_swaps (w : Wd) (o p : Ob) (hw : w.wf) (ho : o.wf) (hp : p.wf) : Pure Try.prog 11 [.agg (Wd.enc w), .agg (Ob.enc o), .agg (Ob.enc p)] (.bool true) := by
  have hk := law13_awake
  have b1 := law13_few w hw.2.2.2.2
  have b2 := law13_brief o
  have b2' := law13_brief p
  have lo := Ob.lens ho
  have lp := Ob.lens hp
  have b3 : fewWd w = true → Pure Try.prog 44 [.agg (Wd.enc w)] (.bool (wdFit w)) := fun h => r13_fit w (few_L hw h)
  have b4 : briefOb o = true → Pure Try.prog 28 [.agg (Ob.enc o)] (.bool (sound o)) := fun h => r13_sound o lo (by have := (brief_lens h).1; omega)
  have b5 : briefOb p = true → Pure Try.prog 28 [.agg (Ob.enc p)] (.bool (sound p)) := fun h => r13_sound p lp (by have := (brief_lens h).1; omega)
  refine pureI (by kernel_rfl) (by simp only [go_sem, *]) (by simp only [go_sem, *]) Try.func11 Try.results11 rfl (by simp [Try.ntmps11]) (by kernel_rfl) ?_
  repeat' (first
    | (show pwOps ..; first | refine pops_nil ?_ | refine pops_n rfl ?_ | refine pops_w' rfl rfl ?_)
    | (show runGo ..; first | refine run_ev rfl rfl ?_ | refine run_call rfl ?_)
    | (show goOn ..; first | refine on_nop ?_ | refine on_new ?_ | refine on_put ?_ | refine on_born ?_ | refine on_grow ?_)
    | (show putGo ..; refine put_box ?_)
    | (show callGo ..; (refine call_pure (r := ?_) ?_ ?_; rotate_left 1; (focus first | exact b1 | exact b2 | exact b2' | exact b3 (by assumption) | exact b4 (by assumption) | exact b5 (by assumption) | exact hk)))
    | (show wGo ..; first | refine gw_tt ?_ | refine gw_ff ?_ | refine gw_tf ?_ | refine gw_ft ?_ | refine gw_u ?_ | refine gw_tn (fun _ => ?_) (fun _ => ?_) | refine gw_fn (fun _ => ?_) (fun _ => ?_) | refine gw_tb (fun _ => ?_) (fun _ => ?_) | refine gw_fb (fun _ => ?_) (fun _ => ?_))
    | (show dr ..; first | refine dr_nil ?_ | refine dr_n rfl ?_ | refine dr_w' rfl rfl ?_)
    | (show drGo ..; first | refine dr_ev rfl ?_ | refine dr_call rfl ?_)
    | (show drOn ..; first | refine dn_nop ?_ | refine dn_new ?_ | refine dn_put ?_ | refine dn_born ?_ | refine dn_grow ?_)
    | (show dputGo ..; refine dput_box ?_)
    | (show dcallGo ..; (refine dcall_pure (r := ?_) ?_ ?_; rotate_left 1; (focus first | exact b1 | exact b2 | exact b2' | exact b3 (by assumption) | exact b4 (by assumption) | exact b5 (by assumption) | exact hk)))
    | (refine And.intro (by kernel_rfl : okAll _ = true) ?_)
    | (show pwCode ..; first | refine pc_seq ?_ | refine pc_region ?_ | refine pc_draw (by kernel_rfl) ?_ | refine pc_ret ?_ | refine pc_skip ?_ | refine pc_block ?_ | refine pc_exit ?_ | refine pc_cond ?_)
    | (show condGo ..; first | refine cd_t ?_ | refine cd_f ?_ | refine cd_n (fun _ => ?_) (fun _ => ?_) | refine cd_b (fun _ => ?_) (fun _ => ?_))
    | refine th_normal ?_
    | refine th_ret ?_
    | refine th_exit ?_
    | refine th_pan ?_
    | refine bl_normal ?_
    | refine bl_exit ?_
    | refine bl_pass rfl ?_
    | refine bl_ret ?_
    | refine bl_pan ?_
    | (show retQ ..; first | refine rt_ret ?_ | refine rt_normal ?_)
    | refine rs_some ?_)
  all_goals first | rfl | skip
  have h1 : fewWd w = true := by assumption
  have h2 : briefOb o = true := by assumption
  have h2' : briefOb p = true := by assumption
  have h3 : wdFit w = true := by assumption
  have hne0 : (o.id == p.id) = false := by assumption
  have hne : ¬ o.id = p.id := by simpa using hne0
  obtain ⟨hr, hsnd, _⟩ := fit_ris h3
  have hl := few_len h1
  have lw := few_L hw h1
  have lab1 := (brief_lens h2).1
  have lab2 := (brief_lens h2').1
  have n1 := ins_len w o
  have n2 := ins_len w p
  have n3 := out_len w o.id
  have n4 := out_len w p.id
  have r1 := ins_ris hr o
  have r2 := ins_ris hr p
  have r3 := out_ris hr o.id
  have r4 := out_ris hr p.id
  have p1 := put_c w o hr (by omega)
  have p2 := put_c (w.ins o) p r1 (by omega)
  have p3 := put_c w p hr (by omega)
  have p4 := put_c (w.ins p) o r2 (by omega)
  have p5 := put_c (w.out p.id) o r4 (by omega)
  have d1 := drop_c w o.id hr (by omega)
  have d2 := drop_c (w.out o.id) p.id r3 (by omega)
  have d3 := drop_c w p.id hr (by omega)
  have d4 := drop_c (w.out p.id) o.id r4 (by omega)
  have d5 := drop_c (w.ins o) o.id r1 (by omega)
  have d6 := drop_c (w.ins o) p.id r1 (by omega)
  have L1 := ins_L lw lo (by omega) (by omega)
  have L2 := ins_L L1 lp (by omega) (by omega)
  have L3 := out_L (out_L lw o.id) p.id
  have s1 := same_c L2 (b := (w.ins p).ins o) (wd_ext rfl rfl rfl (ins_ris r1 p) (ins_ris r2 o) (fun k => by
    show fnd (insR p (insR o w.objects)) k = fnd (insR o (insR p w.objects)) k
    rw [insR_fnd (insR_ris hr), insR_fnd hr, insR_fnd (insR_ris hr), insR_fnd hr]
    by_cases e1 : p.id = k
    · rw [if_pos e1, if_neg (by omega), if_pos e1]
    · rw [if_neg e1, if_neg e1]))
  have s2 := same_c L3 (b := (w.out p.id).out o.id) (wd_ext rfl rfl rfl (out_ris r3 _) (out_ris r4 _) (fun k => by
    show fnd (outR (outR w.objects o.id) p.id) k = fnd (outR (outR w.objects p.id) o.id) k
    rw [outR_fnd, outR_fnd, outR_fnd, outR_fnd]
    by_cases e1 : p.id = k
    · rw [if_pos e1, if_neg (by omega), if_pos e1]
    · rw [if_neg e1, if_neg e1]))
  have s3 := same_c (out_L L1 o.id) (b := w.out o.id) (wd_ext rfl rfl rfl (out_ris r1 _) r3 (fun k => by
    show fnd (outR (insR o w.objects) o.id) k = fnd (outR w.objects o.id) k
    rw [outR_fnd, outR_fnd, insR_fnd hr]
    by_cases e1 : o.id = k
    · rw [if_pos e1, if_pos e1]
    · rw [if_neg e1, if_neg e1, if_neg e1]))
  have s4 := same_c (out_L L1 p.id) (b := (w.out p.id).ins o) (wd_ext rfl rfl rfl (out_ris r1 _) (ins_ris r4 o) (fun k => by
    show fnd (outR (insR o w.objects) p.id) k = fnd (insR o (outR w.objects p.id)) k
    rw [outR_fnd, insR_fnd hr, insR_fnd (outR_ris hr _), outR_fnd]
    by_cases e1 : p.id = k
    · rw [if_pos e1, if_neg (by omega), if_pos e1]
    · rw [if_neg e1, if_neg e1]))
  clear h1 h2 h2' h3 hne
  repeat' (first
    | (show pwOps ..; first | refine pops_nil ?_ | refine pops_n rfl ?_ | refine pops_w' rfl rfl ?_)
    | (show runGo ..; first | refine run_ev rfl rfl ?_ | refine run_call rfl ?_)
    | (show goOn ..; first | refine on_nop ?_ | refine on_new ?_ | refine on_put ?_ | refine on_born ?_ | refine on_grow ?_)
    | (show putGo ..; refine put_box ?_)
    | (show callGo ..; (refine call_pure (r := ?_) ?_ ?_; rotate_left 1; (focus first | exact p1 | exact p2 | exact p3 | exact p4 | exact p5 | exact d1 | exact d2 | exact d3 | exact d4 | exact d5 | exact d6 | exact s1 | exact s2 | exact s3 | exact s4 | exact hk)))
    | (show wGo ..; first | refine gw_tt ?_ | refine gw_ff ?_ | refine gw_tf ?_ | refine gw_ft ?_ | refine gw_u ?_ | refine gw_tn (fun _ => ?_) (fun _ => ?_) | refine gw_fn (fun _ => ?_) (fun _ => ?_) | refine gw_tb (fun _ => ?_) (fun _ => ?_) | refine gw_fb (fun _ => ?_) (fun _ => ?_))
    | (show dr ..; first | refine dr_nil ?_ | refine dr_n rfl ?_ | refine dr_w' rfl rfl ?_)
    | (show drGo ..; first | refine dr_ev rfl ?_ | refine dr_call rfl ?_)
    | (show drOn ..; first | refine dn_nop ?_ | refine dn_new ?_ | refine dn_put ?_ | refine dn_born ?_ | refine dn_grow ?_)
    | (show dputGo ..; refine dput_box ?_)
    | (show dcallGo ..; (refine dcall_pure (r := ?_) ?_ ?_; rotate_left 1; (focus first | exact p1 | exact p2 | exact p3 | exact p4 | exact p5 | exact d1 | exact d2 | exact d3 | exact d4 | exact d5 | exact d6 | exact s1 | exact s2 | exact s3 | exact s4 | exact hk)))
    | (refine And.intro (by kernel_rfl : okAll _ = true) ?_)
    | (show pwCode ..; first | refine pc_seq ?_ | refine pc_region ?_ | refine pc_draw (by kernel_rfl) ?_ | refine pc_ret ?_ | refine pc_skip ?_ | refine pc_block ?_ | refine pc_exit ?_ | refine pc_cond ?_)
    | (show condGo ..; first | refine cd_t ?_ | refine cd_f ?_ | refine cd_n (fun _ => ?_) (fun _ => ?_) | refine cd_b (fun _ => ?_) (fun _ => ?_))
    | refine th_normal ?_
    | refine th_ret ?_
    | refine th_exit ?_
    | refine th_pan ?_
    | refine bl_normal ?_
    | refine bl_exit ?_
    | refine bl_pass rfl ?_
    | refine bl_ret ?_
    | refine bl_pan ?_
    | (show retQ ..; first | refine rt_ret ?_ | refine rt_normal ?_)
    | refine rs_some ?_)
  all_goals rfl
end Go.Proofs.Ytklpedooijlnlaa
end
