import Derived.Test.YtklpedooijlnlaaEa7
namespace Go.Proofs.Ytklpedooijlnlaa
open Go Go.RowKit
set_option linter.unusedVariables false
set_option linter.unusedSimpArgs false
set_option maxHeartbeats 16000000
set_option maxRecDepth 100000
attribute [local irreducible] pwOps dr pwCode Ex.then Ex.inBlock retQ okAll drawOk Pure CSat evOp calleeP rdOf upd hset strip sp0 cut envL heapL Again Keep BdL
/-! Worlds that can be. -/
def obAt (l : List Ob) (k : Nat) : Bool := match l[k]? with
  | none => true
  | some x => sound x && (match k with
    | 0 => true
    | j + 1 => match l[j]? with
      | some y => !decide (y.id ≥ x.id)
      | none => true)
def Wd.L (w : Wd) : Prop := w.objects.length ≤ 9223372036854775807 ∧ ∀ x ∈ w.objects, x.L ∧ x.label.length ≤ 900000
def wdFit (w : Wd) : Bool := (!decide (w.time < 0) && (!decide (w.time > 1099511627776) && !decide ((w.objects.length : Int) > 1024))) && allB w.objects.length (obAt w.objects)
theorem r13_fit (w : Wd) (hw : w.L) : Pure Try.prog 44 [.agg (Wd.enc w)] (.bool (wdFit w)) := by
  refine pureI (by kernel_rfl) (by simp only [go_sem, *]) (by simp only [go_sem, *]) Try.func44 Try.results44 rfl (by simp [Try.ntmps44]) (by kernel_rfl) ?_
  obtain ⟨hl, ho⟩ := hw
  repeat' (first
    | refine pops_nil ?_
    | refine pops_n rfl ?_
    | (refine pops_w' rfl rfl (v := ?_) ?_ ?_; rotate_left 1; (focus ((try simp only [go_sem, *]); exact nm)); (first | refine gw_tt ?_ | refine gw_ff ?_ | refine gw_tf ?_ | refine gw_ft ?_ | refine gw_tn (fun _ => ?_) (fun _ => ?_) | refine gw_fn (fun _ => ?_) (fun _ => ?_) | refine gw_tb (fun _ => ?_) (fun _ => ?_) | refine gw_fb (fun _ => ?_) (fun _ => ?_) | refine gw_u ?_))
    | (refine run_ev rfl rfl (x := ?_) ?_ ?_; rotate_left 1; (focus ((try simp only [go_sem, *]); exact nm)); (first | refine on_nop ?_ | (refine on_new (n := ?_) ?_ ?_; rotate_left 1; (focus ((try simp only [go_sem, *]); exact nm))) | (refine on_put (y := ?_) ?_ ?_; rotate_left 1; (focus ((try simp only [go_sem, *]); exact nm)); refine put_box (l' := ?_) ?_ ?_; rotate_left 1; (focus ((try simp only [go_sem, *]); exact nm))) | (refine on_born (n := ?_) ?_ ?_; rotate_left 1; (focus ((try simp only [go_sem, *]); exact nm))) | refine on_grow ?_))
    | (refine run_call rfl (y := ?_) ?_ ?_; rotate_left 1; (focus ((try simp only [go_sem, *]); exact nm)); refine call_pure (r := ?_) ?_ ?_ ?_; rotate_left 1; (focus (first | assumption | kernel_rfl)); (focus fail))
    | refine dr_nil ?_
    | refine dr_n rfl ?_
    | (refine dr_w' rfl rfl (v := ?_) ?_ ?_; rotate_left 1; (focus ((try simp only [go_sem, *]); exact nm)); (first | refine gw_tt ?_ | refine gw_ff ?_ | refine gw_tf ?_ | refine gw_ft ?_ | refine gw_tn (fun _ => ?_) (fun _ => ?_) | refine gw_fn (fun _ => ?_) (fun _ => ?_) | refine gw_tb (fun _ => ?_) (fun _ => ?_) | refine gw_fb (fun _ => ?_) (fun _ => ?_) | refine gw_u ?_))
    | (refine dr_ev rfl (x := ?_) (rd := ?_) ?_ ?_ ?_; rotate_left 2; (focus ((try simp only [go_sem, *]); exact nm)); (focus ((try simp only [go_sem, *]); exact nm)); (first | refine dn_nop ?_ | (refine dn_new (n := ?_) ?_ ?_; rotate_left 1; (focus ((try simp only [go_sem, *]); exact nm))) | (refine dn_put (y := ?_) ?_ ?_; rotate_left 1; (focus ((try simp only [go_sem, *]); exact nm)); refine dput_box (l' := ?_) ?_ ?_; rotate_left 1; (focus ((try simp only [go_sem, *]); exact nm))) | (refine dn_born (n := ?_) ?_ ?_; rotate_left 1; (focus ((try simp only [go_sem, *]); exact nm))) | refine dn_grow ?_))
    | (refine dr_call rfl (y := ?_) ?_ ?_; rotate_left 1; (focus ((try simp only [go_sem, *]); exact nm)); refine dcall_pure (r := ?_) ?_ ?_ ?_; rotate_left 1; (focus (first | assumption | kernel_rfl)); (focus fail))
    | (refine And.intro (by kernel_rfl : okAll _ = true) ?_)
    | refine pc_seq ?_
    | refine pc_region ?_
    | (refine pc_draw (by kernel_rfl) ?_)
    | refine pc_ret ?_
    | refine pc_skip ?_
    | refine pc_block ?_
    | refine pc_exit ?_
    | (refine pc_cond (v := ?_) ?_ ?_; rotate_left 1; (focus ((try simp only [go_sem, *]); exact nm)); (first | refine cd_t ?_ | refine cd_f ?_ | refine cd_n (fun _ => ?_) (fun _ => ?_) | refine cd_b (fun _ => ?_) (fun _ => ?_)))
    | refine th_normal ?_
    | refine th_ret ?_
    | refine th_exit ?_
    | refine th_pan ?_
    | refine bl_normal ?_
    | refine bl_exit ?_
    | refine bl_pass rfl ?_
    | refine bl_ret ?_
    | refine bl_pan ?_
    | (refine rt_ret (y := ?_) ?_ ?_; rotate_left 1; (focus ((try simp only [go_sem, *]); exact nm)); refine rs_some ?_)
    | (refine rt_normal (y := ?_) ?_ ?_; rotate_left 1; (focus ((try simp only [go_sem, *]); exact nm)); refine rs_some ?_))
  all_goals first | (refine ret_of ?_; unfold wdFit; simp only [*, Bool.not_true, Bool.not_false, Bool.and_true, Bool.true_and, Bool.and_false, Bool.false_and, Bool.or_true, Bool.true_or, Bool.or_false, Bool.false_or, Bool.and_self, Bool.or_self, decide_true, decide_false, Bool.not_not, if_true, if_false, Bool.false_eq_true, eq_self]; done) | skip
  rename_i t1 t2 t3
  refine pc_loop (S := Nat) (fun n => w.objects.length - n) (fun n => n ≤ w.objects.length ∧ ∀ j, j < n → obAt w.objects j = true) (fun n => [(1, .ptr 0 0), (3, .int .i64 n)]) (fun _ => [(0, .box (Wd.enc w))]) (fun _ => 1) 0 ⟨Nat.zero_le _, fun j hj => absurd hj (Nat.not_lt_zero j)⟩ (by (refine keepI ?_ ?_ <;> repeat' (first | exact ke_nil | exact kg_nil | refine ke_cons (by (try simp only [go_sem, *]); try rfl) (by simp only [go_sem, *]) ?_ | refine kg_box (by (try simp only [go_sem, *]); try rfl) (by omega) (by simp only [go_sem, *]) ?_ | refine kg_row (by (try simp only [go_sem, *]); try rfl) (by omega) (by simp only [go_sem, *]) ?_))) ?_
  rintro n ⟨hn, hs⟩
  have fin : ∀ b, allB w.objects.length (obAt w.objects) = b → b = wdFit w := fun b hb => by unfold wdFit; rw [hb, t1, t2, t3]; rfl
  rcases Nat.lt_or_ge n w.objects.length with hlt | hge
  · obtain ⟨x, hx⟩ := lt_len hlt
    have h0 := lt_true hlt
    have h4 := wrap_nat n (by omega)
    have hq := r13_sound x (ho x (List.mem_of_getElem? hx)).1 (ho x (List.mem_of_getElem? hx)).2
    cases n with
    | zero =>
      have e : obAt w.objects 0 = (sound x && true) := by unfold obAt; rw [hx]
      repeat' (first
    | refine pops_nil ?_
    | refine pops_n rfl ?_
    | (refine pops_w' rfl rfl (v := ?_) ?_ ?_; rotate_left 1; (focus ((try simp only [go_sem, *]); exact nm)); (first | refine gw_tt ?_ | refine gw_ff ?_ | refine gw_tf ?_ | refine gw_ft ?_ | refine gw_tn (fun _ => ?_) (fun _ => ?_) | refine gw_fn (fun _ => ?_) (fun _ => ?_) | refine gw_tb (fun _ => ?_) (fun _ => ?_) | refine gw_fb (fun _ => ?_) (fun _ => ?_) | refine gw_u ?_))
    | (refine run_ev rfl rfl (x := ?_) ?_ ?_; rotate_left 1; (focus ((try simp only [go_sem, *]); exact nm)); (first | refine on_nop ?_ | (refine on_new (n := ?_) ?_ ?_; rotate_left 1; (focus ((try simp only [go_sem, *]); exact nm))) | (refine on_put (y := ?_) ?_ ?_; rotate_left 1; (focus ((try simp only [go_sem, *]); exact nm)); refine put_box (l' := ?_) ?_ ?_; rotate_left 1; (focus ((try simp only [go_sem, *]); exact nm))) | (refine on_born (n := ?_) ?_ ?_; rotate_left 1; (focus ((try simp only [go_sem, *]); exact nm))) | refine on_grow ?_))
    | (refine run_call rfl (y := ?_) ?_ ?_; rotate_left 1; (focus ((try simp only [go_sem, *]); exact nm)); refine call_pure (r := ?_) ?_ ?_ ?_; rotate_left 1; (focus (first | assumption | kernel_rfl)); (focus first | exact hq))
    | refine dr_nil ?_
    | refine dr_n rfl ?_
    | (refine dr_w' rfl rfl (v := ?_) ?_ ?_; rotate_left 1; (focus ((try simp only [go_sem, *]); exact nm)); (first | refine gw_tt ?_ | refine gw_ff ?_ | refine gw_tf ?_ | refine gw_ft ?_ | refine gw_tn (fun _ => ?_) (fun _ => ?_) | refine gw_fn (fun _ => ?_) (fun _ => ?_) | refine gw_tb (fun _ => ?_) (fun _ => ?_) | refine gw_fb (fun _ => ?_) (fun _ => ?_) | refine gw_u ?_))
    | (refine dr_ev rfl (x := ?_) (rd := ?_) ?_ ?_ ?_; rotate_left 2; (focus ((try simp only [go_sem, *]); exact nm)); (focus ((try simp only [go_sem, *]); exact nm)); (first | refine dn_nop ?_ | (refine dn_new (n := ?_) ?_ ?_; rotate_left 1; (focus ((try simp only [go_sem, *]); exact nm))) | (refine dn_put (y := ?_) ?_ ?_; rotate_left 1; (focus ((try simp only [go_sem, *]); exact nm)); refine dput_box (l' := ?_) ?_ ?_; rotate_left 1; (focus ((try simp only [go_sem, *]); exact nm))) | (refine dn_born (n := ?_) ?_ ?_; rotate_left 1; (focus ((try simp only [go_sem, *]); exact nm))) | refine dn_grow ?_))
    | (refine dr_call rfl (y := ?_) ?_ ?_; rotate_left 1; (focus ((try simp only [go_sem, *]); exact nm)); refine dcall_pure (r := ?_) ?_ ?_ ?_; rotate_left 1; (focus (first | assumption | kernel_rfl)); (focus first | exact hq))
    | (refine And.intro (by kernel_rfl : okAll _ = true) ?_)
    | refine pc_seq ?_
    | refine pc_region ?_
    | (refine pc_draw (by kernel_rfl) ?_)
    | refine pc_ret ?_
    | refine pc_skip ?_
    | refine pc_block ?_
    | refine pc_exit ?_
    | (refine pc_cond (v := ?_) ?_ ?_; rotate_left 1; (focus ((try simp only [go_sem, *]); exact nm)); (first | refine cd_t ?_ | refine cd_f ?_ | refine cd_n (fun _ => ?_) (fun _ => ?_) | refine cd_b (fun _ => ?_) (fun _ => ?_)))
    | refine th_normal ?_
    | refine th_ret ?_
    | refine th_exit ?_
    | refine th_pan ?_
    | refine bl_normal ?_
    | refine bl_exit ?_
    | refine bl_pass rfl ?_
    | refine bl_ret ?_
    | refine bl_pan ?_
    | (refine rt_ret (y := ?_) ?_ ?_; rotate_left 1; (focus ((try simp only [go_sem, *]); exact nm)); refine rs_some ?_)
    | (refine rt_normal (y := ?_) ?_ ?_; rotate_left 1; (focus ((try simp only [go_sem, *]); exact nm)); refine rs_some ?_))
      all_goals first
        | (refine ret_of (fin _ (allB_false hlt ?_)); simp only [*, Bool.not_true, Bool.not_false, Bool.and_true, Bool.true_and, Bool.and_false, Bool.false_and, Bool.or_true, Bool.true_or, Bool.or_false, Bool.false_or, Bool.and_self, Bool.or_self, decide_true, decide_false, Bool.not_not, if_true, if_false, Bool.false_eq_true, eq_self])
        | (refine again (0 + 1) ⟨?_, up_to hs ?_⟩ ?_ (by (refine keepI ?_ ?_ <;> repeat' (first | exact ke_nil | exact kg_nil | refine ke_cons (by (try simp only [go_sem, *]); try rfl) (by simp only [go_sem, *]) ?_ | refine kg_box (by (try simp only [go_sem, *]); try rfl) (by omega) (by simp only [go_sem, *]) ?_ | refine kg_row (by (try simp only [go_sem, *]); try rfl) (by omega) (by simp only [go_sem, *]) ?_))); (focus omega); (focus simp only [*, Bool.not_true, Bool.not_false, Bool.and_true, Bool.true_and, Bool.and_false, Bool.false_and, Bool.or_true, Bool.true_or, Bool.or_false, Bool.false_or, Bool.and_self, Bool.or_self, decide_true, decide_false, Bool.not_not, if_true, if_false, Bool.false_eq_true, eq_self]); (focus omega))
    | succ j =>
      obtain ⟨y, hy⟩ := lt_len (by omega : j < w.objects.length)
      have h5 := wrap_prev j (by omega)
      have h6 := gt_prev j
      have e : obAt w.objects (j + 1) = (sound x && !decide (y.id ≥ x.id)) := by unfold obAt; rw [hx]; simp only [hy]
      repeat' (first
    | refine pops_nil ?_
    | refine pops_n rfl ?_
    | (refine pops_w' rfl rfl (v := ?_) ?_ ?_; rotate_left 1; (focus ((try simp only [go_sem, *]); exact nm)); (first | refine gw_tt ?_ | refine gw_ff ?_ | refine gw_tf ?_ | refine gw_ft ?_ | refine gw_tn (fun _ => ?_) (fun _ => ?_) | refine gw_fn (fun _ => ?_) (fun _ => ?_) | refine gw_tb (fun _ => ?_) (fun _ => ?_) | refine gw_fb (fun _ => ?_) (fun _ => ?_) | refine gw_u ?_))
    | (refine run_ev rfl rfl (x := ?_) ?_ ?_; rotate_left 1; (focus ((try simp only [go_sem, *]); exact nm)); (first | refine on_nop ?_ | (refine on_new (n := ?_) ?_ ?_; rotate_left 1; (focus ((try simp only [go_sem, *]); exact nm))) | (refine on_put (y := ?_) ?_ ?_; rotate_left 1; (focus ((try simp only [go_sem, *]); exact nm)); refine put_box (l' := ?_) ?_ ?_; rotate_left 1; (focus ((try simp only [go_sem, *]); exact nm))) | (refine on_born (n := ?_) ?_ ?_; rotate_left 1; (focus ((try simp only [go_sem, *]); exact nm))) | refine on_grow ?_))
    | (refine run_call rfl (y := ?_) ?_ ?_; rotate_left 1; (focus ((try simp only [go_sem, *]); exact nm)); refine call_pure (r := ?_) ?_ ?_ ?_; rotate_left 1; (focus (first | assumption | kernel_rfl)); (focus first | exact hq))
    | refine dr_nil ?_
    | refine dr_n rfl ?_
    | (refine dr_w' rfl rfl (v := ?_) ?_ ?_; rotate_left 1; (focus ((try simp only [go_sem, *]); exact nm)); (first | refine gw_tt ?_ | refine gw_ff ?_ | refine gw_tf ?_ | refine gw_ft ?_ | refine gw_tn (fun _ => ?_) (fun _ => ?_) | refine gw_fn (fun _ => ?_) (fun _ => ?_) | refine gw_tb (fun _ => ?_) (fun _ => ?_) | refine gw_fb (fun _ => ?_) (fun _ => ?_) | refine gw_u ?_))
    | (refine dr_ev rfl (x := ?_) (rd := ?_) ?_ ?_ ?_; rotate_left 2; (focus ((try simp only [go_sem, *]); exact nm)); (focus ((try simp only [go_sem, *]); exact nm)); (first | refine dn_nop ?_ | (refine dn_new (n := ?_) ?_ ?_; rotate_left 1; (focus ((try simp only [go_sem, *]); exact nm))) | (refine dn_put (y := ?_) ?_ ?_; rotate_left 1; (focus ((try simp only [go_sem, *]); exact nm)); refine dput_box (l' := ?_) ?_ ?_; rotate_left 1; (focus ((try simp only [go_sem, *]); exact nm))) | (refine dn_born (n := ?_) ?_ ?_; rotate_left 1; (focus ((try simp only [go_sem, *]); exact nm))) | refine dn_grow ?_))
    | (refine dr_call rfl (y := ?_) ?_ ?_; rotate_left 1; (focus ((try simp only [go_sem, *]); exact nm)); refine dcall_pure (r := ?_) ?_ ?_ ?_; rotate_left 1; (focus (first | assumption | kernel_rfl)); (focus first | exact hq))
    | (refine And.intro (by kernel_rfl : okAll _ = true) ?_)
    | refine pc_seq ?_
    | refine pc_region ?_
    | (refine pc_draw (by kernel_rfl) ?_)
    | refine pc_ret ?_
    | refine pc_skip ?_
    | refine pc_block ?_
    | refine pc_exit ?_
    | (refine pc_cond (v := ?_) ?_ ?_; rotate_left 1; (focus ((try simp only [go_sem, *]); exact nm)); (first | refine cd_t ?_ | refine cd_f ?_ | refine cd_n (fun _ => ?_) (fun _ => ?_) | refine cd_b (fun _ => ?_) (fun _ => ?_)))
    | refine th_normal ?_
    | refine th_ret ?_
    | refine th_exit ?_
    | refine th_pan ?_
    | refine bl_normal ?_
    | refine bl_exit ?_
    | refine bl_pass rfl ?_
    | refine bl_ret ?_
    | refine bl_pan ?_
    | (refine rt_ret (y := ?_) ?_ ?_; rotate_left 1; (focus ((try simp only [go_sem, *]); exact nm)); refine rs_some ?_)
    | (refine rt_normal (y := ?_) ?_ ?_; rotate_left 1; (focus ((try simp only [go_sem, *]); exact nm)); refine rs_some ?_))
      all_goals first
        | (refine ret_of (fin _ (allB_false hlt ?_)); simp only [*, Bool.not_true, Bool.not_false, Bool.and_true, Bool.true_and, Bool.and_false, Bool.false_and, Bool.or_true, Bool.true_or, Bool.or_false, Bool.false_or, Bool.and_self, Bool.or_self, decide_true, decide_false, Bool.not_not, if_true, if_false, Bool.false_eq_true, eq_self])
        | (refine again (j + 1 + 1) ⟨?_, up_to hs ?_⟩ ?_ (by (refine keepI ?_ ?_ <;> repeat' (first | exact ke_nil | exact kg_nil | refine ke_cons (by (try simp only [go_sem, *]); try rfl) (by simp only [go_sem, *]) ?_ | refine kg_box (by (try simp only [go_sem, *]); try rfl) (by omega) (by simp only [go_sem, *]) ?_ | refine kg_row (by (try simp only [go_sem, *]); try rfl) (by omega) (by simp only [go_sem, *]) ?_))); (focus omega); (focus simp only [*, Bool.not_true, Bool.not_false, Bool.and_true, Bool.true_and, Bool.and_false, Bool.false_and, Bool.or_true, Bool.true_or, Bool.or_false, Bool.false_or, Bool.and_self, Bool.or_self, decide_true, decide_false, Bool.not_not, if_true, if_false, Bool.false_eq_true, eq_self]); (focus omega))
  · have h0 := lt_false hge
    repeat' (first
    | refine pops_nil ?_
    | refine pops_n rfl ?_
    | (refine pops_w' rfl rfl (v := ?_) ?_ ?_; rotate_left 1; (focus ((try simp only [go_sem, *]); exact nm)); (first | refine gw_tt ?_ | refine gw_ff ?_ | refine gw_tf ?_ | refine gw_ft ?_ | refine gw_tn (fun _ => ?_) (fun _ => ?_) | refine gw_fn (fun _ => ?_) (fun _ => ?_) | refine gw_tb (fun _ => ?_) (fun _ => ?_) | refine gw_fb (fun _ => ?_) (fun _ => ?_) | refine gw_u ?_))
    | (refine run_ev rfl rfl (x := ?_) ?_ ?_; rotate_left 1; (focus ((try simp only [go_sem, *]); exact nm)); (first | refine on_nop ?_ | (refine on_new (n := ?_) ?_ ?_; rotate_left 1; (focus ((try simp only [go_sem, *]); exact nm))) | (refine on_put (y := ?_) ?_ ?_; rotate_left 1; (focus ((try simp only [go_sem, *]); exact nm)); refine put_box (l' := ?_) ?_ ?_; rotate_left 1; (focus ((try simp only [go_sem, *]); exact nm))) | (refine on_born (n := ?_) ?_ ?_; rotate_left 1; (focus ((try simp only [go_sem, *]); exact nm))) | refine on_grow ?_))
    | (refine run_call rfl (y := ?_) ?_ ?_; rotate_left 1; (focus ((try simp only [go_sem, *]); exact nm)); refine call_pure (r := ?_) ?_ ?_ ?_; rotate_left 1; (focus (first | assumption | kernel_rfl)); (focus fail))
    | refine dr_nil ?_
    | refine dr_n rfl ?_
    | (refine dr_w' rfl rfl (v := ?_) ?_ ?_; rotate_left 1; (focus ((try simp only [go_sem, *]); exact nm)); (first | refine gw_tt ?_ | refine gw_ff ?_ | refine gw_tf ?_ | refine gw_ft ?_ | refine gw_tn (fun _ => ?_) (fun _ => ?_) | refine gw_fn (fun _ => ?_) (fun _ => ?_) | refine gw_tb (fun _ => ?_) (fun _ => ?_) | refine gw_fb (fun _ => ?_) (fun _ => ?_) | refine gw_u ?_))
    | (refine dr_ev rfl (x := ?_) (rd := ?_) ?_ ?_ ?_; rotate_left 2; (focus ((try simp only [go_sem, *]); exact nm)); (focus ((try simp only [go_sem, *]); exact nm)); (first | refine dn_nop ?_ | (refine dn_new (n := ?_) ?_ ?_; rotate_left 1; (focus ((try simp only [go_sem, *]); exact nm))) | (refine dn_put (y := ?_) ?_ ?_; rotate_left 1; (focus ((try simp only [go_sem, *]); exact nm)); refine dput_box (l' := ?_) ?_ ?_; rotate_left 1; (focus ((try simp only [go_sem, *]); exact nm))) | (refine dn_born (n := ?_) ?_ ?_; rotate_left 1; (focus ((try simp only [go_sem, *]); exact nm))) | refine dn_grow ?_))
    | (refine dr_call rfl (y := ?_) ?_ ?_; rotate_left 1; (focus ((try simp only [go_sem, *]); exact nm)); refine dcall_pure (r := ?_) ?_ ?_ ?_; rotate_left 1; (focus (first | assumption | kernel_rfl)); (focus fail))
    | (refine And.intro (by kernel_rfl : okAll _ = true) ?_)
    | refine pc_seq ?_
    | refine pc_region ?_
    | (refine pc_draw (by kernel_rfl) ?_)
    | refine pc_ret ?_
    | refine pc_skip ?_
    | refine pc_block ?_
    | refine pc_exit ?_
    | (refine pc_cond (v := ?_) ?_ ?_; rotate_left 1; (focus ((try simp only [go_sem, *]); exact nm)); (first | refine cd_t ?_ | refine cd_f ?_ | refine cd_n (fun _ => ?_) (fun _ => ?_) | refine cd_b (fun _ => ?_) (fun _ => ?_)))
    | refine th_normal ?_
    | refine th_ret ?_
    | refine th_exit ?_
    | refine th_pan ?_
    | refine bl_normal ?_
    | refine bl_exit ?_
    | refine bl_pass rfl ?_
    | refine bl_ret ?_
    | refine bl_pan ?_
    | (refine rt_ret (y := ?_) ?_ ?_; rotate_left 1; (focus ((try simp only [go_sem, *]); exact nm)); refine rs_some ?_)
    | (refine rt_normal (y := ?_) ?_ ?_; rotate_left 1; (focus ((try simp only [go_sem, *]); exact nm)); refine rs_some ?_))
    exact ret_of (fin _ (allB_true fun j hj => hs j (by omega)))
end Go.Proofs.Ytklpedooijlnlaa
