import Derived.Test.YtklpedooijlnlaaEb6
namespace Go.Proofs.Ytklpedooijlnlaa
open Go Go.RowKit
set_option linter.unusedVariables false
set_option linter.unusedSimpArgs false
set_option maxHeartbeats 16000000
set_option maxRecDepth 100000
attribute [local irreducible] pwOps dr pwCode Ex.then Ex.inBlock retQ okAll drawOk Pure CSat evOp calleeP rdOf upd hset strip sp0 cut envL heapL Again Keep BdL
/-! Worlds: few, the same, fit; pages; raised labels. -/
def briefAt (l : List Ob) (k : Nat) : Bool := match l[k]? with
  | some x => briefOb x
  | none => true
def fewWd (w : Wd) : Bool := !decide ((w.objects.length : Int) > 20) && allB w.objects.length (briefAt w.objects)
theorem law13_few (w : Wd) (hl : w.objects.length ≤ 9223372036854775807) : Pure Try.prog 41 [.agg (Wd.enc w)] (.bool (fewWd w)) := by
  refine pureI (by kernel_rfl) (by simp only [go_sem, *]) (by simp only [go_sem, *]) Try.func41 Try.results41 rfl (by simp [Try.ntmps41]) (by kernel_rfl) ?_
  repeat' (first
    | refine pops_nil ?_
    | refine pops_n rfl ?_
    | (refine pops_w' rfl rfl (v := ?_) ?_ ?_; rotate_left 1; (focus ((try simp only [go_sem, *]); exact nm)); (first | refine gw_tt ?_ | refine gw_ff ?_ | refine gw_tf ?_ | refine gw_ft ?_ | refine gw_tn (fun _ => ?_) (fun _ => ?_) | refine gw_fn (fun _ => ?_) (fun _ => ?_) | refine gw_tb (fun _ => ?_) (fun _ => ?_) | refine gw_fb (fun _ => ?_) (fun _ => ?_) | refine gw_u ?_))
    | (refine run_ev rfl rfl (x := ?_) ?_ ?_; rotate_left 1; (focus ((try simp only [go_sem, *]); exact nm)); (first | refine on_nop ?_ | (refine on_new (n := ?_) ?_ ?_; rotate_left 1; (focus ((try simp only [go_sem, *]); exact nm))) | (refine on_put (y := ?_) ?_ ?_; rotate_left 1; (focus ((try simp only [go_sem, *]); exact nm)); refine put_box (l' := ?_) ?_ ?_; rotate_left 1; (focus ((try simp only [go_sem, *]); exact nm))) | (refine on_born (n := ?_) ?_ ?_; rotate_left 1; (focus ((try simp only [go_sem, *]); exact nm))) | refine on_grow ?_))
    | (refine run_call rfl (y := ?_) ?_ ?_; rotate_left 1; (focus ((try simp only [go_sem, *]); exact nm)); refine call_pure (r := ?_) ?_ ?_ ?_; rotate_left 1; (focus (first | assumption | kernel_rfl)); (focus fail))
    | refine dr_nil ?_
    | refine dr_n rfl ?_
    | (refine dr_w' rfl rfl (v := ?_) ?_ ?_; rotate_left 1; (focus ((try simp only [go_sem, *]); exact nm)); (first | refine gw_tt ?_ | refine gw_ff ?_ | refine gw_tf ?_ | refine gw_ft ?_ | refine gw_tn (fun _ => ?_) (fun _ => ?_) | refine gw_fn (fun _ => ?_) (fun _ => ?_) | refine gw_tb (fun _ => ?_) (fun _ => ?_) | refine gw_fb (fun _ => ?_) (fun _ => ?_) | refine gw_u ?_))
    | (refine dr_ev rfl (x := ?_) (rd := ?_) ?_ ?_ ?_; rotate_left 2; (focus ((try simp only [go_sem, *]); exact nm)); (focus ((try simp only [go_sem, *]); exact nm)); (first | refine dn_nop ?_ | (refine dn_new (n := ?_) ?_ ?_; rotate_left 1; (focus ((try simp only [go_sem, *]); exact nm))) | (refine dn_put (y := ?_) ?_ ?_; rotate_left 1; (focus ((try simp only [go_sem, *]); exact nm)); refine dput_box (l' := ?_) ?_ ?_; rotate_left 1; (focus ((try simp only [go_sem, *]); exact nm))) | (refine dn_born (n := ?_) ?_ ?_; rotate_left 1; (focus ((try simp only [go_sem, *]); exact nm))) | refine dn_grow ?_))
    | (refine dr_call rfl (y := ?_) ?_ ?_; rotate_left 1; (focus ((try simp only [go_sem, *]); exact nm)); refine dcall_pure (r := ?_) ?_ ?_ ?_; rotate_left 1; (focus (first | assumption | kernel_rfl)); (focus fail))
    | (refine And.intro (by kernel_rfl : okAll _ = true) ?_)
    | refine pc_seq ?_
    | refine pc_region ?_
    | (refine pc_draw (by kernel_rfl) ?_)
    | refine pc_ret ?_
    | refine pc_skip ?_
    | refine pc_block ?_
    | refine pc_exit ?_
    | (refine pc_cond (v := ?_) ?_ ?_; rotate_left 1; (focus ((try simp only [go_sem, *]); exact nm)); (first | refine cd_t ?_ | refine cd_f ?_ | refine cd_n (fun _ => ?_) (fun _ => ?_) | refine cd_b (fun _ => ?_) (fun _ => ?_)))
    | refine th_normal ?_
    | refine th_ret ?_
    | refine th_exit ?_
    | refine th_pan ?_
    | refine bl_normal ?_
    | refine bl_exit ?_
    | refine bl_pass rfl ?_
    | refine bl_ret ?_
    | refine bl_pan ?_
    | (refine rt_ret (y := ?_) ?_ ?_; rotate_left 1; (focus ((try simp only [go_sem, *]); exact nm)); refine rs_some ?_)
    | (refine rt_normal (y := ?_) ?_ ?_; rotate_left 1; (focus ((try simp only [go_sem, *]); exact nm)); refine rs_some ?_))
  all_goals first | (refine ret_of ?_; unfold fewWd; simp only [*, Bool.not_true, Bool.not_false, Bool.and_true, Bool.true_and, Bool.and_false, Bool.false_and, Bool.or_true, Bool.true_or, Bool.or_false, Bool.false_or, Bool.and_self, Bool.or_self, decide_true, decide_false, Bool.not_not, if_true, if_false, Bool.false_eq_true, eq_self]; done) | skip
  rename_i t1
  refine pc_loop (S := Nat) (fun n => w.objects.length - n) (fun n => n ≤ w.objects.length ∧ ∀ j, j < n → briefAt w.objects j = true) (fun n => [(10, .sl (w.objects.map Ob.enc)), (11, .int .i64 w.objects.length), (12, .int .i64 n)]) (fun _ => []) (fun _ => 1) 0 ⟨Nat.zero_le _, fun j hj => absurd hj (Nat.not_lt_zero j)⟩ (by (refine keepI ?_ ?_ <;> repeat' (first | exact ke_nil | exact kg_nil | refine ke_cons (by (try simp only [go_sem, *]); try rfl) (by simp only [go_sem, *]) ?_ | refine kg_box (by (try simp only [go_sem, *]); try rfl) (by omega) (by simp only [go_sem, *]) ?_ | refine kg_row (by (try simp only [go_sem, *]); try rfl) (by omega) (by simp only [go_sem, *]) ?_))) ?_
  rintro n ⟨hn, hs⟩
  have fin : ∀ b, allB w.objects.length (briefAt w.objects) = b → b = fewWd w := fun b hb => by unfold fewWd; rw [hb, t1]; rfl
  rcases Nat.lt_or_ge n w.objects.length with hlt | hge
  · obtain ⟨x, hx⟩ := lt_len hlt
    have h0 := lt_true hlt
    have h4 := wrap_nat n (by omega)
    have e : briefAt w.objects n = briefOb x := by unfold briefAt; rw [hx]
    repeat' (first
    | refine pops_nil ?_
    | refine pops_n rfl ?_
    | (refine pops_w' rfl rfl (v := ?_) ?_ ?_; rotate_left 1; (focus ((try simp only [go_sem, *]); exact nm)); (first | refine gw_tt ?_ | refine gw_ff ?_ | refine gw_tf ?_ | refine gw_ft ?_ | refine gw_tn (fun _ => ?_) (fun _ => ?_) | refine gw_fn (fun _ => ?_) (fun _ => ?_) | refine gw_tb (fun _ => ?_) (fun _ => ?_) | refine gw_fb (fun _ => ?_) (fun _ => ?_) | refine gw_u ?_))
    | (refine run_ev rfl rfl (x := ?_) ?_ ?_; rotate_left 1; (focus ((try simp only [go_sem, *]); exact nm)); (first | refine on_nop ?_ | (refine on_new (n := ?_) ?_ ?_; rotate_left 1; (focus ((try simp only [go_sem, *]); exact nm))) | (refine on_put (y := ?_) ?_ ?_; rotate_left 1; (focus ((try simp only [go_sem, *]); exact nm)); refine put_box (l' := ?_) ?_ ?_; rotate_left 1; (focus ((try simp only [go_sem, *]); exact nm))) | (refine on_born (n := ?_) ?_ ?_; rotate_left 1; (focus ((try simp only [go_sem, *]); exact nm))) | refine on_grow ?_))
    | (refine run_call rfl (y := ?_) ?_ ?_; rotate_left 1; (focus ((try simp only [go_sem, *]); exact nm)); refine call_pure (r := ?_) ?_ ?_ ?_; rotate_left 1; (focus (first | assumption | kernel_rfl)); (focus first | exact law13_brief _))
    | refine dr_nil ?_
    | refine dr_n rfl ?_
    | (refine dr_w' rfl rfl (v := ?_) ?_ ?_; rotate_left 1; (focus ((try simp only [go_sem, *]); exact nm)); (first | refine gw_tt ?_ | refine gw_ff ?_ | refine gw_tf ?_ | refine gw_ft ?_ | refine gw_tn (fun _ => ?_) (fun _ => ?_) | refine gw_fn (fun _ => ?_) (fun _ => ?_) | refine gw_tb (fun _ => ?_) (fun _ => ?_) | refine gw_fb (fun _ => ?_) (fun _ => ?_) | refine gw_u ?_))
    | (refine dr_ev rfl (x := ?_) (rd := ?_) ?_ ?_ ?_; rotate_left 2; (focus ((try simp only [go_sem, *]); exact nm)); (focus ((try simp only [go_sem, *]); exact nm)); (first | refine dn_nop ?_ | (refine dn_new (n := ?_) ?_ ?_; rotate_left 1; (focus ((try simp only [go_sem, *]); exact nm))) | (refine dn_put (y := ?_) ?_ ?_; rotate_left 1; (focus ((try simp only [go_sem, *]); exact nm)); refine dput_box (l' := ?_) ?_ ?_; rotate_left 1; (focus ((try simp only [go_sem, *]); exact nm))) | (refine dn_born (n := ?_) ?_ ?_; rotate_left 1; (focus ((try simp only [go_sem, *]); exact nm))) | refine dn_grow ?_))
    | (refine dr_call rfl (y := ?_) ?_ ?_; rotate_left 1; (focus ((try simp only [go_sem, *]); exact nm)); refine dcall_pure (r := ?_) ?_ ?_ ?_; rotate_left 1; (focus (first | assumption | kernel_rfl)); (focus first | exact law13_brief _))
    | (refine And.intro (by kernel_rfl : okAll _ = true) ?_)
    | refine pc_seq ?_
    | refine pc_region ?_
    | (refine pc_draw (by kernel_rfl) ?_)
    | refine pc_ret ?_
    | refine pc_skip ?_
    | refine pc_block ?_
    | refine pc_exit ?_
    | (refine pc_cond (v := ?_) ?_ ?_; rotate_left 1; (focus ((try simp only [go_sem, *]); exact nm)); (first | refine cd_t ?_ | refine cd_f ?_ | refine cd_n (fun _ => ?_) (fun _ => ?_) | refine cd_b (fun _ => ?_) (fun _ => ?_)))
    | refine th_normal ?_
    | refine th_ret ?_
    | refine th_exit ?_
    | refine th_pan ?_
    | refine bl_normal ?_
    | refine bl_exit ?_
    | refine bl_pass rfl ?_
    | refine bl_ret ?_
    | refine bl_pan ?_
    | (refine rt_ret (y := ?_) ?_ ?_; rotate_left 1; (focus ((try simp only [go_sem, *]); exact nm)); refine rs_some ?_)
    | (refine rt_normal (y := ?_) ?_ ?_; rotate_left 1; (focus ((try simp only [go_sem, *]); exact nm)); refine rs_some ?_))
    all_goals first
      | (refine ret_of (fin _ (allB_false hlt ?_)); simp only [*, Bool.not_true, Bool.not_false, Bool.and_true, Bool.true_and, Bool.and_false, Bool.false_and, Bool.or_true, Bool.true_or, Bool.or_false, Bool.false_or, Bool.and_self, Bool.or_self, decide_true, decide_false, Bool.not_not, if_true, if_false, Bool.false_eq_true, eq_self])
      | (refine again (n + 1) ⟨?_, up_to hs ?_⟩ ?_ (by (refine keepI ?_ ?_ <;> repeat' (first | exact ke_nil | exact kg_nil | refine ke_cons (by (try simp only [go_sem, *]); try rfl) (by simp only [go_sem, *]) ?_ | refine kg_box (by (try simp only [go_sem, *]); try rfl) (by omega) (by simp only [go_sem, *]) ?_ | refine kg_row (by (try simp only [go_sem, *]); try rfl) (by omega) (by simp only [go_sem, *]) ?_))); (focus omega); (focus simp only [*, Bool.not_true, Bool.not_false, Bool.and_true, Bool.true_and, Bool.and_false, Bool.false_and, Bool.or_true, Bool.true_or, Bool.or_false, Bool.false_or, Bool.and_self, Bool.or_self, decide_true, decide_false, Bool.not_not, if_true, if_false, Bool.false_eq_true, eq_self]); (focus omega))
  · have h0 := lt_false hge
    repeat' (first
    | refine pops_nil ?_
    | refine pops_n rfl ?_
    | (refine pops_w' rfl rfl (v := ?_) ?_ ?_; rotate_left 1; (focus ((try simp only [go_sem, *]); exact nm)); (first | refine gw_tt ?_ | refine gw_ff ?_ | refine gw_tf ?_ | refine gw_ft ?_ | refine gw_tn (fun _ => ?_) (fun _ => ?_) | refine gw_fn (fun _ => ?_) (fun _ => ?_) | refine gw_tb (fun _ => ?_) (fun _ => ?_) | refine gw_fb (fun _ => ?_) (fun _ => ?_) | refine gw_u ?_))
    | (refine run_ev rfl rfl (x := ?_) ?_ ?_; rotate_left 1; (focus ((try simp only [go_sem, *]); exact nm)); (first | refine on_nop ?_ | (refine on_new (n := ?_) ?_ ?_; rotate_left 1; (focus ((try simp only [go_sem, *]); exact nm))) | (refine on_put (y := ?_) ?_ ?_; rotate_left 1; (focus ((try simp only [go_sem, *]); exact nm)); refine put_box (l' := ?_) ?_ ?_; rotate_left 1; (focus ((try simp only [go_sem, *]); exact nm))) | (refine on_born (n := ?_) ?_ ?_; rotate_left 1; (focus ((try simp only [go_sem, *]); exact nm))) | refine on_grow ?_))
    | (refine run_call rfl (y := ?_) ?_ ?_; rotate_left 1; (focus ((try simp only [go_sem, *]); exact nm)); refine call_pure (r := ?_) ?_ ?_ ?_; rotate_left 1; (focus (first | assumption | kernel_rfl)); (focus fail))
    | refine dr_nil ?_
    | refine dr_n rfl ?_
    | (refine dr_w' rfl rfl (v := ?_) ?_ ?_; rotate_left 1; (focus ((try simp only [go_sem, *]); exact nm)); (first | refine gw_tt ?_ | refine gw_ff ?_ | refine gw_tf ?_ | refine gw_ft ?_ | refine gw_tn (fun _ => ?_) (fun _ => ?_) | refine gw_fn (fun _ => ?_) (fun _ => ?_) | refine gw_tb (fun _ => ?_) (fun _ => ?_) | refine gw_fb (fun _ => ?_) (fun _ => ?_) | refine gw_u ?_))
    | (refine dr_ev rfl (x := ?_) (rd := ?_) ?_ ?_ ?_; rotate_left 2; (focus ((try simp only [go_sem, *]); exact nm)); (focus ((try simp only [go_sem, *]); exact nm)); (first | refine dn_nop ?_ | (refine dn_new (n := ?_) ?_ ?_; rotate_left 1; (focus ((try simp only [go_sem, *]); exact nm))) | (refine dn_put (y := ?_) ?_ ?_; rotate_left 1; (focus ((try simp only [go_sem, *]); exact nm)); refine dput_box (l' := ?_) ?_ ?_; rotate_left 1; (focus ((try simp only [go_sem, *]); exact nm))) | (refine dn_born (n := ?_) ?_ ?_; rotate_left 1; (focus ((try simp only [go_sem, *]); exact nm))) | refine dn_grow ?_))
    | (refine dr_call rfl (y := ?_) ?_ ?_; rotate_left 1; (focus ((try simp only [go_sem, *]); exact nm)); refine dcall_pure (r := ?_) ?_ ?_ ?_; rotate_left 1; (focus (first | assumption | kernel_rfl)); (focus fail))
    | (refine And.intro (by kernel_rfl : okAll _ = true) ?_)
    | refine pc_seq ?_
    | refine pc_region ?_
    | (refine pc_draw (by kernel_rfl) ?_)
    | refine pc_ret ?_
    | refine pc_skip ?_
    | refine pc_block ?_
    | refine pc_exit ?_
    | (refine pc_cond (v := ?_) ?_ ?_; rotate_left 1; (focus ((try simp only [go_sem, *]); exact nm)); (first | refine cd_t ?_ | refine cd_f ?_ | refine cd_n (fun _ => ?_) (fun _ => ?_) | refine cd_b (fun _ => ?_) (fun _ => ?_)))
    | refine th_normal ?_
    | refine th_ret ?_
    | refine th_exit ?_
    | refine th_pan ?_
    | refine bl_normal ?_
    | refine bl_exit ?_
    | refine bl_pass rfl ?_
    | refine bl_ret ?_
    | refine bl_pan ?_
    | (refine rt_ret (y := ?_) ?_ ?_; rotate_left 1; (focus ((try simp only [go_sem, *]); exact nm)); refine rs_some ?_)
    | (refine rt_normal (y := ?_) ?_ ?_; rotate_left 1; (focus ((try simp only [go_sem, *]); exact nm)); refine rs_some ?_))
    exact ret_of (fin _ (allB_true fun j hj => hs j (by omega)))
theorem obj_unsound (o : Ob) (ha : o.L) (hl : o.label.length ≤ 900000) : Pure Try.prog 98 [.agg (Ob.enc o)] (.bool (!soundO o)) := by
  refine pureI (by kernel_rfl) (by simp only [go_sem, *]) (by simp only [go_sem, *]) Try.func98 Try.results98 rfl (by simp [Try.ntmps98]) (by kernel_rfl) ?_
  repeat' (first
    | refine pops_nil ?_
    | refine pops_n rfl ?_
    | (refine pops_w' rfl rfl (v := ?_) ?_ ?_; rotate_left 1; (focus ((try simp only [go_sem, *]); exact nm)); (first | refine gw_tt ?_ | refine gw_ff ?_ | refine gw_tf ?_ | refine gw_ft ?_ | refine gw_tn (fun _ => ?_) (fun _ => ?_) | refine gw_fn (fun _ => ?_) (fun _ => ?_) | refine gw_tb (fun _ => ?_) (fun _ => ?_) | refine gw_fb (fun _ => ?_) (fun _ => ?_) | refine gw_u ?_))
    | (refine run_ev rfl rfl (x := ?_) ?_ ?_; rotate_left 1; (focus ((try simp only [go_sem, *]); exact nm)); (first | refine on_nop ?_ | (refine on_new (n := ?_) ?_ ?_; rotate_left 1; (focus ((try simp only [go_sem, *]); exact nm))) | (refine on_put (y := ?_) ?_ ?_; rotate_left 1; (focus ((try simp only [go_sem, *]); exact nm)); refine put_box (l' := ?_) ?_ ?_; rotate_left 1; (focus ((try simp only [go_sem, *]); exact nm))) | (refine on_born (n := ?_) ?_ ?_; rotate_left 1; (focus ((try simp only [go_sem, *]); exact nm))) | refine on_grow ?_))
    | (refine run_call rfl (y := ?_) ?_ ?_; rotate_left 1; (focus ((try simp only [go_sem, *]); exact nm)); refine call_pure (r := ?_) ?_ ?_ ?_; rotate_left 1; (focus (first | assumption | kernel_rfl)); (focus first | exact obj_sound _ ha hl))
    | refine dr_nil ?_
    | refine dr_n rfl ?_
    | (refine dr_w' rfl rfl (v := ?_) ?_ ?_; rotate_left 1; (focus ((try simp only [go_sem, *]); exact nm)); (first | refine gw_tt ?_ | refine gw_ff ?_ | refine gw_tf ?_ | refine gw_ft ?_ | refine gw_tn (fun _ => ?_) (fun _ => ?_) | refine gw_fn (fun _ => ?_) (fun _ => ?_) | refine gw_tb (fun _ => ?_) (fun _ => ?_) | refine gw_fb (fun _ => ?_) (fun _ => ?_) | refine gw_u ?_))
    | (refine dr_ev rfl (x := ?_) (rd := ?_) ?_ ?_ ?_; rotate_left 2; (focus ((try simp only [go_sem, *]); exact nm)); (focus ((try simp only [go_sem, *]); exact nm)); (first | refine dn_nop ?_ | (refine dn_new (n := ?_) ?_ ?_; rotate_left 1; (focus ((try simp only [go_sem, *]); exact nm))) | (refine dn_put (y := ?_) ?_ ?_; rotate_left 1; (focus ((try simp only [go_sem, *]); exact nm)); refine dput_box (l' := ?_) ?_ ?_; rotate_left 1; (focus ((try simp only [go_sem, *]); exact nm))) | (refine dn_born (n := ?_) ?_ ?_; rotate_left 1; (focus ((try simp only [go_sem, *]); exact nm))) | refine dn_grow ?_))
    | (refine dr_call rfl (y := ?_) ?_ ?_; rotate_left 1; (focus ((try simp only [go_sem, *]); exact nm)); refine dcall_pure (r := ?_) ?_ ?_ ?_; rotate_left 1; (focus (first | assumption | kernel_rfl)); (focus first | exact obj_sound _ ha hl))
    | (refine And.intro (by kernel_rfl : okAll _ = true) ?_)
    | refine pc_seq ?_
    | refine pc_region ?_
    | (refine pc_draw (by kernel_rfl) ?_)
    | refine pc_ret ?_
    | refine pc_skip ?_
    | refine pc_block ?_
    | refine pc_exit ?_
    | (refine pc_cond (v := ?_) ?_ ?_; rotate_left 1; (focus ((try simp only [go_sem, *]); exact nm)); (first | refine cd_t ?_ | refine cd_f ?_ | refine cd_n (fun _ => ?_) (fun _ => ?_) | refine cd_b (fun _ => ?_) (fun _ => ?_)))
    | refine th_normal ?_
    | refine th_ret ?_
    | refine th_exit ?_
    | refine th_pan ?_
    | refine bl_normal ?_
    | refine bl_exit ?_
    | refine bl_pass rfl ?_
    | refine bl_ret ?_
    | refine bl_pan ?_
    | (refine rt_ret (y := ?_) ?_ ?_; rotate_left 1; (focus ((try simp only [go_sem, *]); exact nm)); refine rs_some ?_)
    | (refine rt_normal (y := ?_) ?_ ?_; rotate_left 1; (focus ((try simp only [go_sem, *]); exact nm)); refine rs_some ?_))
  all_goals rfl
def fitO (w : Wd) : Bool := decide (w.time ≥ 0) && (decide (w.time ≤ 1099511627776) && (decide ((w.objects.length : Int) ≤ 1024) && (allB (w.objects.length - 1) (upAt Ob.id w.objects) && !w.objects.any (fun o => !soundO o))))
theorem obj_fit (w : Wd) (hw : w.L) : Pure Try.prog 43 [.agg (Wd.enc w)] (.bool (fitO w)) := by
  refine pureI (by kernel_rfl) (by simp only [go_sem, *]) (by simp only [go_sem, *]) Try.func43 Try.results43 rfl (by simp [Try.ntmps43]) (by kernel_rfl) ?_
  obtain ⟨hl, ho⟩ := hw
  have hR := risingOb w.objects hl 100 Ob.id (by kernel_rfl) (fun x _ => obj_idOf x)
  have hC := cfOb w.objects hl 98 (fun o => !soundO o) (by kernel_rfl) (fun x hx => obj_unsound x (ho x hx).1 (ho x hx).2)
  repeat' (first
    | refine pops_nil ?_
    | refine pops_n rfl ?_
    | (refine pops_w' rfl rfl (v := ?_) ?_ ?_; rotate_left 1; (focus ((try simp only [go_sem, *]); exact nm)); (first | refine gw_tt ?_ | refine gw_ff ?_ | refine gw_tf ?_ | refine gw_ft ?_ | refine gw_tn (fun _ => ?_) (fun _ => ?_) | refine gw_fn (fun _ => ?_) (fun _ => ?_) | refine gw_tb (fun _ => ?_) (fun _ => ?_) | refine gw_fb (fun _ => ?_) (fun _ => ?_) | refine gw_u ?_))
    | (refine run_ev rfl rfl (x := ?_) ?_ ?_; rotate_left 1; (focus ((try simp only [go_sem, *]); exact nm)); (first | refine on_nop ?_ | (refine on_new (n := ?_) ?_ ?_; rotate_left 1; (focus ((try simp only [go_sem, *]); exact nm))) | (refine on_put (y := ?_) ?_ ?_; rotate_left 1; (focus ((try simp only [go_sem, *]); exact nm)); refine put_box (l' := ?_) ?_ ?_; rotate_left 1; (focus ((try simp only [go_sem, *]); exact nm))) | (refine on_born (n := ?_) ?_ ?_; rotate_left 1; (focus ((try simp only [go_sem, *]); exact nm))) | refine on_grow ?_))
    | (refine run_call rfl (y := ?_) ?_ ?_; rotate_left 1; (focus ((try simp only [go_sem, *]); exact nm)); refine call_pure (r := ?_) ?_ ?_ ?_; rotate_left 1; (focus (first | assumption | kernel_rfl)); (focus first | exact hR | exact hC))
    | refine dr_nil ?_
    | refine dr_n rfl ?_
    | (refine dr_w' rfl rfl (v := ?_) ?_ ?_; rotate_left 1; (focus ((try simp only [go_sem, *]); exact nm)); (first | refine gw_tt ?_ | refine gw_ff ?_ | refine gw_tf ?_ | refine gw_ft ?_ | refine gw_tn (fun _ => ?_) (fun _ => ?_) | refine gw_fn (fun _ => ?_) (fun _ => ?_) | refine gw_tb (fun _ => ?_) (fun _ => ?_) | refine gw_fb (fun _ => ?_) (fun _ => ?_) | refine gw_u ?_))
    | (refine dr_ev rfl (x := ?_) (rd := ?_) ?_ ?_ ?_; rotate_left 2; (focus ((try simp only [go_sem, *]); exact nm)); (focus ((try simp only [go_sem, *]); exact nm)); (first | refine dn_nop ?_ | (refine dn_new (n := ?_) ?_ ?_; rotate_left 1; (focus ((try simp only [go_sem, *]); exact nm))) | (refine dn_put (y := ?_) ?_ ?_; rotate_left 1; (focus ((try simp only [go_sem, *]); exact nm)); refine dput_box (l' := ?_) ?_ ?_; rotate_left 1; (focus ((try simp only [go_sem, *]); exact nm))) | (refine dn_born (n := ?_) ?_ ?_; rotate_left 1; (focus ((try simp only [go_sem, *]); exact nm))) | refine dn_grow ?_))
    | (refine dr_call rfl (y := ?_) ?_ ?_; rotate_left 1; (focus ((try simp only [go_sem, *]); exact nm)); refine dcall_pure (r := ?_) ?_ ?_ ?_; rotate_left 1; (focus (first | assumption | kernel_rfl)); (focus first | exact hR | exact hC))
    | (refine And.intro (by kernel_rfl : okAll _ = true) ?_)
    | refine pc_seq ?_
    | refine pc_region ?_
    | (refine pc_draw (by kernel_rfl) ?_)
    | refine pc_ret ?_
    | refine pc_skip ?_
    | refine pc_block ?_
    | refine pc_exit ?_
    | (refine pc_cond (v := ?_) ?_ ?_; rotate_left 1; (focus ((try simp only [go_sem, *]); exact nm)); (first | refine cd_t ?_ | refine cd_f ?_ | refine cd_n (fun _ => ?_) (fun _ => ?_) | refine cd_b (fun _ => ?_) (fun _ => ?_)))
    | refine th_normal ?_
    | refine th_ret ?_
    | refine th_exit ?_
    | refine th_pan ?_
    | refine bl_normal ?_
    | refine bl_exit ?_
    | refine bl_pass rfl ?_
    | refine bl_ret ?_
    | refine bl_pan ?_
    | (refine rt_ret (y := ?_) ?_ ?_; rotate_left 1; (focus ((try simp only [go_sem, *]); exact nm)); refine rs_some ?_)
    | (refine rt_normal (y := ?_) ?_ ?_; rotate_left 1; (focus ((try simp only [go_sem, *]); exact nm)); refine rs_some ?_))
  all_goals (refine ret_of ?_; unfold fitO; simp only [*, Bool.not_true, Bool.not_false, Bool.and_true, Bool.true_and, Bool.and_false, Bool.false_and, Bool.or_true, Bool.true_or, Bool.or_false, Bool.false_or, Bool.and_self, Bool.or_self, decide_true, decide_false, Bool.not_not, if_true, if_false, Bool.false_eq_true, eq_self])
def eqAt (l k : List Ob) (j : Nat) : Bool := match l[j]? with
  | some x => match k[j]? with
    | some y => sameOb x y
    | none => true
  | none => true
def eqObs (l k : List Ob) : Bool := decide (l.length = k.length) && allB l.length (eqAt l k)
theorem eqf_ob (l k : List Ob) (hl : l.length ≤ 9223372036854775807) (hL : ∀ x ∈ l, x.L) : Pure Try.prog 106 [.sl (l.map Ob.enc), .sl (k.map Ob.enc), .fn (.func 45) [] []] (.bool (eqObs l k)) := by
  refine pureI (by kernel_rfl) (by simp only [go_sem, *]) (by simp only [go_sem, *]) Try.func106 Try.results106 rfl (by simp [Try.ntmps106]) (by kernel_rfl) ?_
  by_cases hlen : l.length = k.length
  · have hd : decide (l.length = k.length) = true := decide_eq_true hlen
    repeat' (first
    | refine pops_nil ?_
    | refine pops_n rfl ?_
    | (refine pops_w' rfl rfl (v := ?_) ?_ ?_; rotate_left 1; (focus ((try simp only [go_sem, *]); exact nm)); (first | refine gw_tt ?_ | refine gw_ff ?_ | refine gw_tf ?_ | refine gw_ft ?_ | refine gw_tn (fun _ => ?_) (fun _ => ?_) | refine gw_fn (fun _ => ?_) (fun _ => ?_) | refine gw_tb (fun _ => ?_) (fun _ => ?_) | refine gw_fb (fun _ => ?_) (fun _ => ?_) | refine gw_u ?_))
    | (refine run_ev rfl rfl (x := ?_) ?_ ?_; rotate_left 1; (focus ((try simp only [go_sem, *]); exact nm)); (first | refine on_nop ?_ | (refine on_new (n := ?_) ?_ ?_; rotate_left 1; (focus ((try simp only [go_sem, *]); exact nm))) | (refine on_put (y := ?_) ?_ ?_; rotate_left 1; (focus ((try simp only [go_sem, *]); exact nm)); refine put_box (l' := ?_) ?_ ?_; rotate_left 1; (focus ((try simp only [go_sem, *]); exact nm))) | (refine on_born (n := ?_) ?_ ?_; rotate_left 1; (focus ((try simp only [go_sem, *]); exact nm))) | refine on_grow ?_))
    | (refine run_call rfl (y := ?_) ?_ ?_; rotate_left 1; (focus ((try simp only [go_sem, *]); exact nm)); refine call_pure (r := ?_) ?_ ?_ ?_; rotate_left 1; (focus (first | assumption | kernel_rfl)); (focus fail))
    | refine dr_nil ?_
    | refine dr_n rfl ?_
    | (refine dr_w' rfl rfl (v := ?_) ?_ ?_; rotate_left 1; (focus ((try simp only [go_sem, *]); exact nm)); (first | refine gw_tt ?_ | refine gw_ff ?_ | refine gw_tf ?_ | refine gw_ft ?_ | refine gw_tn (fun _ => ?_) (fun _ => ?_) | refine gw_fn (fun _ => ?_) (fun _ => ?_) | refine gw_tb (fun _ => ?_) (fun _ => ?_) | refine gw_fb (fun _ => ?_) (fun _ => ?_) | refine gw_u ?_))
    | (refine dr_ev rfl (x := ?_) (rd := ?_) ?_ ?_ ?_; rotate_left 2; (focus ((try simp only [go_sem, *]); exact nm)); (focus ((try simp only [go_sem, *]); exact nm)); (first | refine dn_nop ?_ | (refine dn_new (n := ?_) ?_ ?_; rotate_left 1; (focus ((try simp only [go_sem, *]); exact nm))) | (refine dn_put (y := ?_) ?_ ?_; rotate_left 1; (focus ((try simp only [go_sem, *]); exact nm)); refine dput_box (l' := ?_) ?_ ?_; rotate_left 1; (focus ((try simp only [go_sem, *]); exact nm))) | (refine dn_born (n := ?_) ?_ ?_; rotate_left 1; (focus ((try simp only [go_sem, *]); exact nm))) | refine dn_grow ?_))
    | (refine dr_call rfl (y := ?_) ?_ ?_; rotate_left 1; (focus ((try simp only [go_sem, *]); exact nm)); refine dcall_pure (r := ?_) ?_ ?_ ?_; rotate_left 1; (focus (first | assumption | kernel_rfl)); (focus fail))
    | (refine And.intro (by kernel_rfl : okAll _ = true) ?_)
    | refine pc_seq ?_
    | refine pc_region ?_
    | (refine pc_draw (by kernel_rfl) ?_)
    | refine pc_ret ?_
    | refine pc_skip ?_
    | refine pc_block ?_
    | refine pc_exit ?_
    | (refine pc_cond (v := ?_) ?_ ?_; rotate_left 1; (focus ((try simp only [go_sem, *]); exact nm)); (first | refine cd_t ?_ | refine cd_f ?_ | refine cd_n (fun _ => ?_) (fun _ => ?_) | refine cd_b (fun _ => ?_) (fun _ => ?_)))
    | refine th_normal ?_
    | refine th_ret ?_
    | refine th_exit ?_
    | refine th_pan ?_
    | refine bl_normal ?_
    | refine bl_exit ?_
    | refine bl_pass rfl ?_
    | refine bl_ret ?_
    | refine bl_pan ?_
    | (refine rt_ret (y := ?_) ?_ ?_; rotate_left 1; (focus ((try simp only [go_sem, *]); exact nm)); refine rs_some ?_)
    | (refine rt_normal (y := ?_) ?_ ?_; rotate_left 1; (focus ((try simp only [go_sem, *]); exact nm)); refine rs_some ?_))
    refine pc_loop (S := Nat) (fun n => l.length - n) (fun n => n ≤ l.length ∧ ∀ j, j < n → eqAt l k j = true) (fun n => [(1, .sl (k.map Ob.enc)), (2, .fn (.func 45) [] []), (15, .sl (l.map Ob.enc)), (16, .int .i64 l.length), (17, .int .i64 n)]) (fun _ => []) (fun _ => 0) 0 ⟨Nat.zero_le _, fun j hj => absurd hj (Nat.not_lt_zero j)⟩ (by (refine keepI ?_ ?_ <;> repeat' (first | exact ke_nil | exact kg_nil | refine ke_cons (by (try simp only [go_sem, *]); try rfl) (by simp only [go_sem, *]) ?_ | refine kg_box (by (try simp only [go_sem, *]); try rfl) (by omega) (by simp only [go_sem, *]) ?_ | refine kg_row (by (try simp only [go_sem, *]); try rfl) (by omega) (by simp only [go_sem, *]) ?_))) ?_
    rintro n ⟨hn, hs⟩
    have fin : ∀ b, allB l.length (eqAt l k) = b → b = eqObs l k := fun b hb => by unfold eqObs; rw [hb, hd]; rfl
    rcases Nat.lt_or_ge n l.length with hlt | hge
    · obtain ⟨x, hx⟩ := lt_len hlt
      obtain ⟨y, hy⟩ := lt_len (hlen ▸ hlt : n < k.length)
      have h0 := lt_true hlt
      have hk0 := lt_true (hlen ▸ hlt : n < k.length)
      have h4 := wrap_nat n (by omega)
      have hLx := hL x (List.mem_of_getElem? hx)
      have e : eqAt l k n = sameOb x y := by unfold eqAt; rw [hx]; simp only [hy]
      repeat' (first
    | refine pops_nil ?_
    | refine pops_n rfl ?_
    | (refine pops_w' rfl rfl (v := ?_) ?_ ?_; rotate_left 1; (focus ((try simp only [go_sem, *]); exact nm)); (first | refine gw_tt ?_ | refine gw_ff ?_ | refine gw_tf ?_ | refine gw_ft ?_ | refine gw_tn (fun _ => ?_) (fun _ => ?_) | refine gw_fn (fun _ => ?_) (fun _ => ?_) | refine gw_tb (fun _ => ?_) (fun _ => ?_) | refine gw_fb (fun _ => ?_) (fun _ => ?_) | refine gw_u ?_))
    | (refine run_ev rfl rfl (x := ?_) ?_ ?_; rotate_left 1; (focus ((try simp only [go_sem, *]); exact nm)); (first | refine on_nop ?_ | (refine on_new (n := ?_) ?_ ?_; rotate_left 1; (focus ((try simp only [go_sem, *]); exact nm))) | (refine on_put (y := ?_) ?_ ?_; rotate_left 1; (focus ((try simp only [go_sem, *]); exact nm)); refine put_box (l' := ?_) ?_ ?_; rotate_left 1; (focus ((try simp only [go_sem, *]); exact nm))) | (refine on_born (n := ?_) ?_ ?_; rotate_left 1; (focus ((try simp only [go_sem, *]); exact nm))) | refine on_grow ?_))
    | (refine run_call rfl (y := ?_) ?_ ?_; rotate_left 1; (focus ((try simp only [go_sem, *]); exact nm)); refine call_pure (r := ?_) ?_ ?_ ?_; rotate_left 1; (focus (first | assumption | kernel_rfl)); (focus first | exact obj_sameOne _ _ hLx))
    | refine dr_nil ?_
    | refine dr_n rfl ?_
    | (refine dr_w' rfl rfl (v := ?_) ?_ ?_; rotate_left 1; (focus ((try simp only [go_sem, *]); exact nm)); (first | refine gw_tt ?_ | refine gw_ff ?_ | refine gw_tf ?_ | refine gw_ft ?_ | refine gw_tn (fun _ => ?_) (fun _ => ?_) | refine gw_fn (fun _ => ?_) (fun _ => ?_) | refine gw_tb (fun _ => ?_) (fun _ => ?_) | refine gw_fb (fun _ => ?_) (fun _ => ?_) | refine gw_u ?_))
    | (refine dr_ev rfl (x := ?_) (rd := ?_) ?_ ?_ ?_; rotate_left 2; (focus ((try simp only [go_sem, *]); exact nm)); (focus ((try simp only [go_sem, *]); exact nm)); (first | refine dn_nop ?_ | (refine dn_new (n := ?_) ?_ ?_; rotate_left 1; (focus ((try simp only [go_sem, *]); exact nm))) | (refine dn_put (y := ?_) ?_ ?_; rotate_left 1; (focus ((try simp only [go_sem, *]); exact nm)); refine dput_box (l' := ?_) ?_ ?_; rotate_left 1; (focus ((try simp only [go_sem, *]); exact nm))) | (refine dn_born (n := ?_) ?_ ?_; rotate_left 1; (focus ((try simp only [go_sem, *]); exact nm))) | refine dn_grow ?_))
    | (refine dr_call rfl (y := ?_) ?_ ?_; rotate_left 1; (focus ((try simp only [go_sem, *]); exact nm)); refine dcall_pure (r := ?_) ?_ ?_ ?_; rotate_left 1; (focus (first | assumption | kernel_rfl)); (focus first | exact obj_sameOne _ _ hLx))
    | (refine And.intro (by kernel_rfl : okAll _ = true) ?_)
    | refine pc_seq ?_
    | refine pc_region ?_
    | (refine pc_draw (by kernel_rfl) ?_)
    | refine pc_ret ?_
    | refine pc_skip ?_
    | refine pc_block ?_
    | refine pc_exit ?_
    | (refine pc_cond (v := ?_) ?_ ?_; rotate_left 1; (focus ((try simp only [go_sem, *]); exact nm)); (first | refine cd_t ?_ | refine cd_f ?_ | refine cd_n (fun _ => ?_) (fun _ => ?_) | refine cd_b (fun _ => ?_) (fun _ => ?_)))
    | refine th_normal ?_
    | refine th_ret ?_
    | refine th_exit ?_
    | refine th_pan ?_
    | refine bl_normal ?_
    | refine bl_exit ?_
    | refine bl_pass rfl ?_
    | refine bl_ret ?_
    | refine bl_pan ?_
    | (refine rt_ret (y := ?_) ?_ ?_; rotate_left 1; (focus ((try simp only [go_sem, *]); exact nm)); refine rs_some ?_)
    | (refine rt_normal (y := ?_) ?_ ?_; rotate_left 1; (focus ((try simp only [go_sem, *]); exact nm)); refine rs_some ?_))
      all_goals first
        | (refine ret_of (fin _ (allB_false hlt ?_)); simp only [*, Bool.not_true, Bool.not_false, Bool.and_true, Bool.true_and, Bool.and_false, Bool.false_and, Bool.or_true, Bool.true_or, Bool.or_false, Bool.false_or, Bool.and_self, Bool.or_self, decide_true, decide_false, Bool.not_not, if_true, if_false, Bool.false_eq_true, eq_self])
        | (refine again (n + 1) ⟨?_, up_to hs ?_⟩ ?_ (by (refine keepI ?_ ?_ <;> repeat' (first | exact ke_nil | exact kg_nil | refine ke_cons (by (try simp only [go_sem, *]); try rfl) (by simp only [go_sem, *]) ?_ | refine kg_box (by (try simp only [go_sem, *]); try rfl) (by omega) (by simp only [go_sem, *]) ?_ | refine kg_row (by (try simp only [go_sem, *]); try rfl) (by omega) (by simp only [go_sem, *]) ?_))); (focus omega); (focus simp only [*, Bool.not_true, Bool.not_false, Bool.and_true, Bool.true_and, Bool.and_false, Bool.false_and, Bool.or_true, Bool.true_or, Bool.or_false, Bool.false_or, Bool.and_self, Bool.or_self, decide_true, decide_false, Bool.not_not, if_true, if_false, Bool.false_eq_true, eq_self]); (focus omega))
    · have h0 := lt_false hge
      have hk0 := lt_false (by omega : k.length ≤ n)
      repeat' (first
    | refine pops_nil ?_
    | refine pops_n rfl ?_
    | (refine pops_w' rfl rfl (v := ?_) ?_ ?_; rotate_left 1; (focus ((try simp only [go_sem, *]); exact nm)); (first | refine gw_tt ?_ | refine gw_ff ?_ | refine gw_tf ?_ | refine gw_ft ?_ | refine gw_tn (fun _ => ?_) (fun _ => ?_) | refine gw_fn (fun _ => ?_) (fun _ => ?_) | refine gw_tb (fun _ => ?_) (fun _ => ?_) | refine gw_fb (fun _ => ?_) (fun _ => ?_) | refine gw_u ?_))
    | (refine run_ev rfl rfl (x := ?_) ?_ ?_; rotate_left 1; (focus ((try simp only [go_sem, *]); exact nm)); (first | refine on_nop ?_ | (refine on_new (n := ?_) ?_ ?_; rotate_left 1; (focus ((try simp only [go_sem, *]); exact nm))) | (refine on_put (y := ?_) ?_ ?_; rotate_left 1; (focus ((try simp only [go_sem, *]); exact nm)); refine put_box (l' := ?_) ?_ ?_; rotate_left 1; (focus ((try simp only [go_sem, *]); exact nm))) | (refine on_born (n := ?_) ?_ ?_; rotate_left 1; (focus ((try simp only [go_sem, *]); exact nm))) | refine on_grow ?_))
    | (refine run_call rfl (y := ?_) ?_ ?_; rotate_left 1; (focus ((try simp only [go_sem, *]); exact nm)); refine call_pure (r := ?_) ?_ ?_ ?_; rotate_left 1; (focus (first | assumption | kernel_rfl)); (focus fail))
    | refine dr_nil ?_
    | refine dr_n rfl ?_
    | (refine dr_w' rfl rfl (v := ?_) ?_ ?_; rotate_left 1; (focus ((try simp only [go_sem, *]); exact nm)); (first | refine gw_tt ?_ | refine gw_ff ?_ | refine gw_tf ?_ | refine gw_ft ?_ | refine gw_tn (fun _ => ?_) (fun _ => ?_) | refine gw_fn (fun _ => ?_) (fun _ => ?_) | refine gw_tb (fun _ => ?_) (fun _ => ?_) | refine gw_fb (fun _ => ?_) (fun _ => ?_) | refine gw_u ?_))
    | (refine dr_ev rfl (x := ?_) (rd := ?_) ?_ ?_ ?_; rotate_left 2; (focus ((try simp only [go_sem, *]); exact nm)); (focus ((try simp only [go_sem, *]); exact nm)); (first | refine dn_nop ?_ | (refine dn_new (n := ?_) ?_ ?_; rotate_left 1; (focus ((try simp only [go_sem, *]); exact nm))) | (refine dn_put (y := ?_) ?_ ?_; rotate_left 1; (focus ((try simp only [go_sem, *]); exact nm)); refine dput_box (l' := ?_) ?_ ?_; rotate_left 1; (focus ((try simp only [go_sem, *]); exact nm))) | (refine dn_born (n := ?_) ?_ ?_; rotate_left 1; (focus ((try simp only [go_sem, *]); exact nm))) | refine dn_grow ?_))
    | (refine dr_call rfl (y := ?_) ?_ ?_; rotate_left 1; (focus ((try simp only [go_sem, *]); exact nm)); refine dcall_pure (r := ?_) ?_ ?_ ?_; rotate_left 1; (focus (first | assumption | kernel_rfl)); (focus fail))
    | (refine And.intro (by kernel_rfl : okAll _ = true) ?_)
    | refine pc_seq ?_
    | refine pc_region ?_
    | (refine pc_draw (by kernel_rfl) ?_)
    | refine pc_ret ?_
    | refine pc_skip ?_
    | refine pc_block ?_
    | refine pc_exit ?_
    | (refine pc_cond (v := ?_) ?_ ?_; rotate_left 1; (focus ((try simp only [go_sem, *]); exact nm)); (first | refine cd_t ?_ | refine cd_f ?_ | refine cd_n (fun _ => ?_) (fun _ => ?_) | refine cd_b (fun _ => ?_) (fun _ => ?_)))
    | refine th_normal ?_
    | refine th_ret ?_
    | refine th_exit ?_
    | refine th_pan ?_
    | refine bl_normal ?_
    | refine bl_exit ?_
    | refine bl_pass rfl ?_
    | refine bl_ret ?_
    | refine bl_pan ?_
    | (refine rt_ret (y := ?_) ?_ ?_; rotate_left 1; (focus ((try simp only [go_sem, *]); exact nm)); refine rs_some ?_)
    | (refine rt_normal (y := ?_) ?_ ?_; rotate_left 1; (focus ((try simp only [go_sem, *]); exact nm)); refine rs_some ?_))
      exact ret_of (fin _ (allB_true fun j hj => hs j (by omega)))
  · have hlen' : ((l.length : Int) == (k.length : Int)) = false := by simp; omega
    have hd : decide (l.length = k.length) = false := decide_eq_false hlen
    repeat' (first
    | refine pops_nil ?_
    | refine pops_n rfl ?_
    | (refine pops_w' rfl rfl (v := ?_) ?_ ?_; rotate_left 1; (focus ((try simp only [go_sem, *]); exact nm)); (first | refine gw_tt ?_ | refine gw_ff ?_ | refine gw_tf ?_ | refine gw_ft ?_ | refine gw_tn (fun _ => ?_) (fun _ => ?_) | refine gw_fn (fun _ => ?_) (fun _ => ?_) | refine gw_tb (fun _ => ?_) (fun _ => ?_) | refine gw_fb (fun _ => ?_) (fun _ => ?_) | refine gw_u ?_))
    | (refine run_ev rfl rfl (x := ?_) ?_ ?_; rotate_left 1; (focus ((try simp only [go_sem, *]); exact nm)); (first | refine on_nop ?_ | (refine on_new (n := ?_) ?_ ?_; rotate_left 1; (focus ((try simp only [go_sem, *]); exact nm))) | (refine on_put (y := ?_) ?_ ?_; rotate_left 1; (focus ((try simp only [go_sem, *]); exact nm)); refine put_box (l' := ?_) ?_ ?_; rotate_left 1; (focus ((try simp only [go_sem, *]); exact nm))) | (refine on_born (n := ?_) ?_ ?_; rotate_left 1; (focus ((try simp only [go_sem, *]); exact nm))) | refine on_grow ?_))
    | (refine run_call rfl (y := ?_) ?_ ?_; rotate_left 1; (focus ((try simp only [go_sem, *]); exact nm)); refine call_pure (r := ?_) ?_ ?_ ?_; rotate_left 1; (focus (first | assumption | kernel_rfl)); (focus fail))
    | refine dr_nil ?_
    | refine dr_n rfl ?_
    | (refine dr_w' rfl rfl (v := ?_) ?_ ?_; rotate_left 1; (focus ((try simp only [go_sem, *]); exact nm)); (first | refine gw_tt ?_ | refine gw_ff ?_ | refine gw_tf ?_ | refine gw_ft ?_ | refine gw_tn (fun _ => ?_) (fun _ => ?_) | refine gw_fn (fun _ => ?_) (fun _ => ?_) | refine gw_tb (fun _ => ?_) (fun _ => ?_) | refine gw_fb (fun _ => ?_) (fun _ => ?_) | refine gw_u ?_))
    | (refine dr_ev rfl (x := ?_) (rd := ?_) ?_ ?_ ?_; rotate_left 2; (focus ((try simp only [go_sem, *]); exact nm)); (focus ((try simp only [go_sem, *]); exact nm)); (first | refine dn_nop ?_ | (refine dn_new (n := ?_) ?_ ?_; rotate_left 1; (focus ((try simp only [go_sem, *]); exact nm))) | (refine dn_put (y := ?_) ?_ ?_; rotate_left 1; (focus ((try simp only [go_sem, *]); exact nm)); refine dput_box (l' := ?_) ?_ ?_; rotate_left 1; (focus ((try simp only [go_sem, *]); exact nm))) | (refine dn_born (n := ?_) ?_ ?_; rotate_left 1; (focus ((try simp only [go_sem, *]); exact nm))) | refine dn_grow ?_))
    | (refine dr_call rfl (y := ?_) ?_ ?_; rotate_left 1; (focus ((try simp only [go_sem, *]); exact nm)); refine dcall_pure (r := ?_) ?_ ?_ ?_; rotate_left 1; (focus (first | assumption | kernel_rfl)); (focus fail))
    | (refine And.intro (by kernel_rfl : okAll _ = true) ?_)
    | refine pc_seq ?_
    | refine pc_region ?_
    | (refine pc_draw (by kernel_rfl) ?_)
    | refine pc_ret ?_
    | refine pc_skip ?_
    | refine pc_block ?_
    | refine pc_exit ?_
    | (refine pc_cond (v := ?_) ?_ ?_; rotate_left 1; (focus ((try simp only [go_sem, *]); exact nm)); (first | refine cd_t ?_ | refine cd_f ?_ | refine cd_n (fun _ => ?_) (fun _ => ?_) | refine cd_b (fun _ => ?_) (fun _ => ?_)))
    | refine th_normal ?_
    | refine th_ret ?_
    | refine th_exit ?_
    | refine th_pan ?_
    | refine bl_normal ?_
    | refine bl_exit ?_
    | refine bl_pass rfl ?_
    | refine bl_ret ?_
    | refine bl_pan ?_
    | (refine rt_ret (y := ?_) ?_ ?_; rotate_left 1; (focus ((try simp only [go_sem, *]); exact nm)); refine rs_some ?_)
    | (refine rt_normal (y := ?_) ?_ ?_; rotate_left 1; (focus ((try simp only [go_sem, *]); exact nm)); refine rs_some ?_))
    refine ret_of ?_; unfold eqObs; rw [hd]; rfl
def sameWd (a b : Wd) : Bool := a.time == b.time && (a.key == b.key && (a.root == b.root && eqObs a.objects b.objects))
theorem obj_sameW (a b : Wd) (ha : a.L) : Pure Try.prog 47 [.agg (Wd.enc a), .agg (Wd.enc b)] (.bool (sameWd a b)) := by
  refine pureI (by kernel_rfl) (by simp only [go_sem, *]) (by simp only [go_sem, *]) Try.func47 Try.results47 rfl (by simp [Try.ntmps47]) (by kernel_rfl) ?_
  have h := eqf_ob a.objects b.objects ha.1 (fun x hx => (ha.2 x hx).1)
  repeat' (first
    | refine pops_nil ?_
    | refine pops_n rfl ?_
    | (refine pops_w' rfl rfl (v := ?_) ?_ ?_; rotate_left 1; (focus ((try simp only [go_sem, *]); exact nm)); (first | refine gw_tt ?_ | refine gw_ff ?_ | refine gw_tf ?_ | refine gw_ft ?_ | refine gw_tn (fun _ => ?_) (fun _ => ?_) | refine gw_fn (fun _ => ?_) (fun _ => ?_) | refine gw_tb (fun _ => ?_) (fun _ => ?_) | refine gw_fb (fun _ => ?_) (fun _ => ?_) | refine gw_u ?_))
    | (refine run_ev rfl rfl (x := ?_) ?_ ?_; rotate_left 1; (focus ((try simp only [go_sem, *]); exact nm)); (first | refine on_nop ?_ | (refine on_new (n := ?_) ?_ ?_; rotate_left 1; (focus ((try simp only [go_sem, *]); exact nm))) | (refine on_put (y := ?_) ?_ ?_; rotate_left 1; (focus ((try simp only [go_sem, *]); exact nm)); refine put_box (l' := ?_) ?_ ?_; rotate_left 1; (focus ((try simp only [go_sem, *]); exact nm))) | (refine on_born (n := ?_) ?_ ?_; rotate_left 1; (focus ((try simp only [go_sem, *]); exact nm))) | refine on_grow ?_))
    | (refine run_call rfl (y := ?_) ?_ ?_; rotate_left 1; (focus ((try simp only [go_sem, *]); exact nm)); refine call_pure (r := ?_) ?_ ?_ ?_; rotate_left 1; (focus (first | assumption | kernel_rfl)); (focus first | exact h))
    | refine dr_nil ?_
    | refine dr_n rfl ?_
    | (refine dr_w' rfl rfl (v := ?_) ?_ ?_; rotate_left 1; (focus ((try simp only [go_sem, *]); exact nm)); (first | refine gw_tt ?_ | refine gw_ff ?_ | refine gw_tf ?_ | refine gw_ft ?_ | refine gw_tn (fun _ => ?_) (fun _ => ?_) | refine gw_fn (fun _ => ?_) (fun _ => ?_) | refine gw_tb (fun _ => ?_) (fun _ => ?_) | refine gw_fb (fun _ => ?_) (fun _ => ?_) | refine gw_u ?_))
    | (refine dr_ev rfl (x := ?_) (rd := ?_) ?_ ?_ ?_; rotate_left 2; (focus ((try simp only [go_sem, *]); exact nm)); (focus ((try simp only [go_sem, *]); exact nm)); (first | refine dn_nop ?_ | (refine dn_new (n := ?_) ?_ ?_; rotate_left 1; (focus ((try simp only [go_sem, *]); exact nm))) | (refine dn_put (y := ?_) ?_ ?_; rotate_left 1; (focus ((try simp only [go_sem, *]); exact nm)); refine dput_box (l' := ?_) ?_ ?_; rotate_left 1; (focus ((try simp only [go_sem, *]); exact nm))) | (refine dn_born (n := ?_) ?_ ?_; rotate_left 1; (focus ((try simp only [go_sem, *]); exact nm))) | refine dn_grow ?_))
    | (refine dr_call rfl (y := ?_) ?_ ?_; rotate_left 1; (focus ((try simp only [go_sem, *]); exact nm)); refine dcall_pure (r := ?_) ?_ ?_ ?_; rotate_left 1; (focus (first | assumption | kernel_rfl)); (focus first | exact h))
    | (refine And.intro (by kernel_rfl : okAll _ = true) ?_)
    | refine pc_seq ?_
    | refine pc_region ?_
    | (refine pc_draw (by kernel_rfl) ?_)
    | refine pc_ret ?_
    | refine pc_skip ?_
    | refine pc_block ?_
    | refine pc_exit ?_
    | (refine pc_cond (v := ?_) ?_ ?_; rotate_left 1; (focus ((try simp only [go_sem, *]); exact nm)); (first | refine cd_t ?_ | refine cd_f ?_ | refine cd_n (fun _ => ?_) (fun _ => ?_) | refine cd_b (fun _ => ?_) (fun _ => ?_)))
    | refine th_normal ?_
    | refine th_ret ?_
    | refine th_exit ?_
    | refine th_pan ?_
    | refine bl_normal ?_
    | refine bl_exit ?_
    | refine bl_pass rfl ?_
    | refine bl_ret ?_
    | refine bl_pan ?_
    | (refine rt_ret (y := ?_) ?_ ?_; rotate_left 1; (focus ((try simp only [go_sem, *]); exact nm)); refine rs_some ?_)
    | (refine rt_normal (y := ?_) ?_ ?_; rotate_left 1; (focus ((try simp only [go_sem, *]); exact nm)); refine rs_some ?_))
  all_goals (refine ret_of ?_; unfold sameWd; simp only [*, Bool.not_true, Bool.not_false, Bool.and_true, Bool.true_and, Bool.and_false, Bool.false_and, Bool.or_true, Bool.true_or, Bool.or_false, Bool.false_or, Bool.and_self, Bool.or_self, decide_true, decide_false, Bool.not_not, if_true, if_false, Bool.false_eq_true, eq_self])
theorem r13_sameW (a b : Wd) (ha : a.L) : Pure Try.prog 48 [.agg (Wd.enc a), .agg (Wd.enc b)] (.bool (sameWd a b)) := by
  refine pureI (by kernel_rfl) (by simp only [go_sem, *]) (by simp only [go_sem, *]) Try.func48 Try.results48 rfl (by simp [Try.ntmps48]) (by kernel_rfl) ?_
  obtain ⟨hl, ho⟩ := ha
  by_cases hlen : a.objects.length = b.objects.length
  · have hd : decide (a.objects.length = b.objects.length) = true := decide_eq_true hlen
    have hlen' : ((a.objects.length : Int) == (b.objects.length : Int)) = true := by simp; omega
    repeat' (first
    | refine pops_nil ?_
    | refine pops_n rfl ?_
    | (refine pops_w' rfl rfl (v := ?_) ?_ ?_; rotate_left 1; (focus ((try simp only [go_sem, *]); exact nm)); (first | refine gw_tt ?_ | refine gw_ff ?_ | refine gw_tf ?_ | refine gw_ft ?_ | refine gw_tn (fun _ => ?_) (fun _ => ?_) | refine gw_fn (fun _ => ?_) (fun _ => ?_) | refine gw_tb (fun _ => ?_) (fun _ => ?_) | refine gw_fb (fun _ => ?_) (fun _ => ?_) | refine gw_u ?_))
    | (refine run_ev rfl rfl (x := ?_) ?_ ?_; rotate_left 1; (focus ((try simp only [go_sem, *]); exact nm)); (first | refine on_nop ?_ | (refine on_new (n := ?_) ?_ ?_; rotate_left 1; (focus ((try simp only [go_sem, *]); exact nm))) | (refine on_put (y := ?_) ?_ ?_; rotate_left 1; (focus ((try simp only [go_sem, *]); exact nm)); refine put_box (l' := ?_) ?_ ?_; rotate_left 1; (focus ((try simp only [go_sem, *]); exact nm))) | (refine on_born (n := ?_) ?_ ?_; rotate_left 1; (focus ((try simp only [go_sem, *]); exact nm))) | refine on_grow ?_))
    | (refine run_call rfl (y := ?_) ?_ ?_; rotate_left 1; (focus ((try simp only [go_sem, *]); exact nm)); refine call_pure (r := ?_) ?_ ?_ ?_; rotate_left 1; (focus (first | assumption | kernel_rfl)); (focus fail))
    | refine dr_nil ?_
    | refine dr_n rfl ?_
    | (refine dr_w' rfl rfl (v := ?_) ?_ ?_; rotate_left 1; (focus ((try simp only [go_sem, *]); exact nm)); (first | refine gw_tt ?_ | refine gw_ff ?_ | refine gw_tf ?_ | refine gw_ft ?_ | refine gw_tn (fun _ => ?_) (fun _ => ?_) | refine gw_fn (fun _ => ?_) (fun _ => ?_) | refine gw_tb (fun _ => ?_) (fun _ => ?_) | refine gw_fb (fun _ => ?_) (fun _ => ?_) | refine gw_u ?_))
    | (refine dr_ev rfl (x := ?_) (rd := ?_) ?_ ?_ ?_; rotate_left 2; (focus ((try simp only [go_sem, *]); exact nm)); (focus ((try simp only [go_sem, *]); exact nm)); (first | refine dn_nop ?_ | (refine dn_new (n := ?_) ?_ ?_; rotate_left 1; (focus ((try simp only [go_sem, *]); exact nm))) | (refine dn_put (y := ?_) ?_ ?_; rotate_left 1; (focus ((try simp only [go_sem, *]); exact nm)); refine dput_box (l' := ?_) ?_ ?_; rotate_left 1; (focus ((try simp only [go_sem, *]); exact nm))) | (refine dn_born (n := ?_) ?_ ?_; rotate_left 1; (focus ((try simp only [go_sem, *]); exact nm))) | refine dn_grow ?_))
    | (refine dr_call rfl (y := ?_) ?_ ?_; rotate_left 1; (focus ((try simp only [go_sem, *]); exact nm)); refine dcall_pure (r := ?_) ?_ ?_ ?_; rotate_left 1; (focus (first | assumption | kernel_rfl)); (focus fail))
    | (refine And.intro (by kernel_rfl : okAll _ = true) ?_)
    | refine pc_seq ?_
    | refine pc_region ?_
    | (refine pc_draw (by kernel_rfl) ?_)
    | refine pc_ret ?_
    | refine pc_skip ?_
    | refine pc_block ?_
    | refine pc_exit ?_
    | (refine pc_cond (v := ?_) ?_ ?_; rotate_left 1; (focus ((try simp only [go_sem, *]); exact nm)); (first | refine cd_t ?_ | refine cd_f ?_ | refine cd_n (fun _ => ?_) (fun _ => ?_) | refine cd_b (fun _ => ?_) (fun _ => ?_)))
    | refine th_normal ?_
    | refine th_ret ?_
    | refine th_exit ?_
    | refine th_pan ?_
    | refine bl_normal ?_
    | refine bl_exit ?_
    | refine bl_pass rfl ?_
    | refine bl_ret ?_
    | refine bl_pan ?_
    | (refine rt_ret (y := ?_) ?_ ?_; rotate_left 1; (focus ((try simp only [go_sem, *]); exact nm)); refine rs_some ?_)
    | (refine rt_normal (y := ?_) ?_ ?_; rotate_left 1; (focus ((try simp only [go_sem, *]); exact nm)); refine rs_some ?_))
    all_goals first | (refine ret_of ?_; unfold sameWd; simp only [*, Bool.not_true, Bool.not_false, Bool.and_true, Bool.true_and, Bool.and_false, Bool.false_and, Bool.or_true, Bool.true_or, Bool.or_false, Bool.false_or, Bool.and_self, Bool.or_self, decide_true, decide_false, Bool.not_not, if_true, if_false, Bool.false_eq_true, eq_self]; done) | skip
    rename_i t1 t2 t3
    refine pc_loop (S := Nat) (fun n => a.objects.length - n) (fun n => n ≤ a.objects.length ∧ ∀ j, j < n → eqAt a.objects b.objects j = true) (fun n => [(2, .ptr 0 0), (3, .ptr 1 0), (5, .int .i64 n)]) (fun _ => [(0, .box (Wd.enc a)), (1, .box (Wd.enc b))]) (fun _ => 2) 0 ⟨Nat.zero_le _, fun j hj => absurd hj (Nat.not_lt_zero j)⟩ (by (refine keepI ?_ ?_ <;> repeat' (first | exact ke_nil | exact kg_nil | refine ke_cons (by (try simp only [go_sem, *]); try rfl) (by simp only [go_sem, *]) ?_ | refine kg_box (by (try simp only [go_sem, *]); try rfl) (by omega) (by simp only [go_sem, *]) ?_ | refine kg_row (by (try simp only [go_sem, *]); try rfl) (by omega) (by simp only [go_sem, *]) ?_))) ?_
    rintro n ⟨hn, hs⟩
    have fin : ∀ c, allB a.objects.length (eqAt a.objects b.objects) = c → c = sameWd a b := fun c hb => by unfold sameWd eqObs; rw [hb, hd, t1, t2, t3]; rfl
    rcases Nat.lt_or_ge n a.objects.length with hlt | hge
    · obtain ⟨x, hx⟩ := lt_len hlt
      obtain ⟨y, hy⟩ := lt_len (hlen ▸ hlt : n < b.objects.length)
      have h0 := lt_true hlt
      have hk0 := lt_true (hlen ▸ hlt : n < b.objects.length)
      have h4 := wrap_nat n (by omega)
      have hLx := (ho x (List.mem_of_getElem? hx)).1
      have e : eqAt a.objects b.objects n = sameOb x y := by unfold eqAt; rw [hx]; simp only [hy]
      repeat' (first
    | refine pops_nil ?_
    | refine pops_n rfl ?_
    | (refine pops_w' rfl rfl (v := ?_) ?_ ?_; rotate_left 1; (focus ((try simp only [go_sem, *]); exact nm)); (first | refine gw_tt ?_ | refine gw_ff ?_ | refine gw_tf ?_ | refine gw_ft ?_ | refine gw_tn (fun _ => ?_) (fun _ => ?_) | refine gw_fn (fun _ => ?_) (fun _ => ?_) | refine gw_tb (fun _ => ?_) (fun _ => ?_) | refine gw_fb (fun _ => ?_) (fun _ => ?_) | refine gw_u ?_))
    | (refine run_ev rfl rfl (x := ?_) ?_ ?_; rotate_left 1; (focus ((try simp only [go_sem, *]); exact nm)); (first | refine on_nop ?_ | (refine on_new (n := ?_) ?_ ?_; rotate_left 1; (focus ((try simp only [go_sem, *]); exact nm))) | (refine on_put (y := ?_) ?_ ?_; rotate_left 1; (focus ((try simp only [go_sem, *]); exact nm)); refine put_box (l' := ?_) ?_ ?_; rotate_left 1; (focus ((try simp only [go_sem, *]); exact nm))) | (refine on_born (n := ?_) ?_ ?_; rotate_left 1; (focus ((try simp only [go_sem, *]); exact nm))) | refine on_grow ?_))
    | (refine run_call rfl (y := ?_) ?_ ?_; rotate_left 1; (focus ((try simp only [go_sem, *]); exact nm)); refine call_pure (r := ?_) ?_ ?_ ?_; rotate_left 1; (focus (first | assumption | kernel_rfl)); (focus first | exact r13_sameOne _ _ hLx))
    | refine dr_nil ?_
    | refine dr_n rfl ?_
    | (refine dr_w' rfl rfl (v := ?_) ?_ ?_; rotate_left 1; (focus ((try simp only [go_sem, *]); exact nm)); (first | refine gw_tt ?_ | refine gw_ff ?_ | refine gw_tf ?_ | refine gw_ft ?_ | refine gw_tn (fun _ => ?_) (fun _ => ?_) | refine gw_fn (fun _ => ?_) (fun _ => ?_) | refine gw_tb (fun _ => ?_) (fun _ => ?_) | refine gw_fb (fun _ => ?_) (fun _ => ?_) | refine gw_u ?_))
    | (refine dr_ev rfl (x := ?_) (rd := ?_) ?_ ?_ ?_; rotate_left 2; (focus ((try simp only [go_sem, *]); exact nm)); (focus ((try simp only [go_sem, *]); exact nm)); (first | refine dn_nop ?_ | (refine dn_new (n := ?_) ?_ ?_; rotate_left 1; (focus ((try simp only [go_sem, *]); exact nm))) | (refine dn_put (y := ?_) ?_ ?_; rotate_left 1; (focus ((try simp only [go_sem, *]); exact nm)); refine dput_box (l' := ?_) ?_ ?_; rotate_left 1; (focus ((try simp only [go_sem, *]); exact nm))) | (refine dn_born (n := ?_) ?_ ?_; rotate_left 1; (focus ((try simp only [go_sem, *]); exact nm))) | refine dn_grow ?_))
    | (refine dr_call rfl (y := ?_) ?_ ?_; rotate_left 1; (focus ((try simp only [go_sem, *]); exact nm)); refine dcall_pure (r := ?_) ?_ ?_ ?_; rotate_left 1; (focus (first | assumption | kernel_rfl)); (focus first | exact r13_sameOne _ _ hLx))
    | (refine And.intro (by kernel_rfl : okAll _ = true) ?_)
    | refine pc_seq ?_
    | refine pc_region ?_
    | (refine pc_draw (by kernel_rfl) ?_)
    | refine pc_ret ?_
    | refine pc_skip ?_
    | refine pc_block ?_
    | refine pc_exit ?_
    | (refine pc_cond (v := ?_) ?_ ?_; rotate_left 1; (focus ((try simp only [go_sem, *]); exact nm)); (first | refine cd_t ?_ | refine cd_f ?_ | refine cd_n (fun _ => ?_) (fun _ => ?_) | refine cd_b (fun _ => ?_) (fun _ => ?_)))
    | refine th_normal ?_
    | refine th_ret ?_
    | refine th_exit ?_
    | refine th_pan ?_
    | refine bl_normal ?_
    | refine bl_exit ?_
    | refine bl_pass rfl ?_
    | refine bl_ret ?_
    | refine bl_pan ?_
    | (refine rt_ret (y := ?_) ?_ ?_; rotate_left 1; (focus ((try simp only [go_sem, *]); exact nm)); refine rs_some ?_)
    | (refine rt_normal (y := ?_) ?_ ?_; rotate_left 1; (focus ((try simp only [go_sem, *]); exact nm)); refine rs_some ?_))
      all_goals first
        | (refine ret_of (fin _ (allB_false hlt ?_)); simp only [*, Bool.not_true, Bool.not_false, Bool.and_true, Bool.true_and, Bool.and_false, Bool.false_and, Bool.or_true, Bool.true_or, Bool.or_false, Bool.false_or, Bool.and_self, Bool.or_self, decide_true, decide_false, Bool.not_not, if_true, if_false, Bool.false_eq_true, eq_self])
        | (refine again (n + 1) ⟨?_, up_to hs ?_⟩ ?_ (by (refine keepI ?_ ?_ <;> repeat' (first | exact ke_nil | exact kg_nil | refine ke_cons (by (try simp only [go_sem, *]); try rfl) (by simp only [go_sem, *]) ?_ | refine kg_box (by (try simp only [go_sem, *]); try rfl) (by omega) (by simp only [go_sem, *]) ?_ | refine kg_row (by (try simp only [go_sem, *]); try rfl) (by omega) (by simp only [go_sem, *]) ?_))); (focus omega); (focus simp only [*, Bool.not_true, Bool.not_false, Bool.and_true, Bool.true_and, Bool.and_false, Bool.false_and, Bool.or_true, Bool.true_or, Bool.or_false, Bool.false_or, Bool.and_self, Bool.or_self, decide_true, decide_false, Bool.not_not, if_true, if_false, Bool.false_eq_true, eq_self]); (focus omega))
    · have h0 := lt_false hge
      have hk0 := lt_false (by omega : b.objects.length ≤ n)
      repeat' (first
    | refine pops_nil ?_
    | refine pops_n rfl ?_
    | (refine pops_w' rfl rfl (v := ?_) ?_ ?_; rotate_left 1; (focus ((try simp only [go_sem, *]); exact nm)); (first | refine gw_tt ?_ | refine gw_ff ?_ | refine gw_tf ?_ | refine gw_ft ?_ | refine gw_tn (fun _ => ?_) (fun _ => ?_) | refine gw_fn (fun _ => ?_) (fun _ => ?_) | refine gw_tb (fun _ => ?_) (fun _ => ?_) | refine gw_fb (fun _ => ?_) (fun _ => ?_) | refine gw_u ?_))
    | (refine run_ev rfl rfl (x := ?_) ?_ ?_; rotate_left 1; (focus ((try simp only [go_sem, *]); exact nm)); (first | refine on_nop ?_ | (refine on_new (n := ?_) ?_ ?_; rotate_left 1; (focus ((try simp only [go_sem, *]); exact nm))) | (refine on_put (y := ?_) ?_ ?_; rotate_left 1; (focus ((try simp only [go_sem, *]); exact nm)); refine put_box (l' := ?_) ?_ ?_; rotate_left 1; (focus ((try simp only [go_sem, *]); exact nm))) | (refine on_born (n := ?_) ?_ ?_; rotate_left 1; (focus ((try simp only [go_sem, *]); exact nm))) | refine on_grow ?_))
    | (refine run_call rfl (y := ?_) ?_ ?_; rotate_left 1; (focus ((try simp only [go_sem, *]); exact nm)); refine call_pure (r := ?_) ?_ ?_ ?_; rotate_left 1; (focus (first | assumption | kernel_rfl)); (focus fail))
    | refine dr_nil ?_
    | refine dr_n rfl ?_
    | (refine dr_w' rfl rfl (v := ?_) ?_ ?_; rotate_left 1; (focus ((try simp only [go_sem, *]); exact nm)); (first | refine gw_tt ?_ | refine gw_ff ?_ | refine gw_tf ?_ | refine gw_ft ?_ | refine gw_tn (fun _ => ?_) (fun _ => ?_) | refine gw_fn (fun _ => ?_) (fun _ => ?_) | refine gw_tb (fun _ => ?_) (fun _ => ?_) | refine gw_fb (fun _ => ?_) (fun _ => ?_) | refine gw_u ?_))
    | (refine dr_ev rfl (x := ?_) (rd := ?_) ?_ ?_ ?_; rotate_left 2; (focus ((try simp only [go_sem, *]); exact nm)); (focus ((try simp only [go_sem, *]); exact nm)); (first | refine dn_nop ?_ | (refine dn_new (n := ?_) ?_ ?_; rotate_left 1; (focus ((try simp only [go_sem, *]); exact nm))) | (refine dn_put (y := ?_) ?_ ?_; rotate_left 1; (focus ((try simp only [go_sem, *]); exact nm)); refine dput_box (l' := ?_) ?_ ?_; rotate_left 1; (focus ((try simp only [go_sem, *]); exact nm))) | (refine dn_born (n := ?_) ?_ ?_; rotate_left 1; (focus ((try simp only [go_sem, *]); exact nm))) | refine dn_grow ?_))
    | (refine dr_call rfl (y := ?_) ?_ ?_; rotate_left 1; (focus ((try simp only [go_sem, *]); exact nm)); refine dcall_pure (r := ?_) ?_ ?_ ?_; rotate_left 1; (focus (first | assumption | kernel_rfl)); (focus fail))
    | (refine And.intro (by kernel_rfl : okAll _ = true) ?_)
    | refine pc_seq ?_
    | refine pc_region ?_
    | (refine pc_draw (by kernel_rfl) ?_)
    | refine pc_ret ?_
    | refine pc_skip ?_
    | refine pc_block ?_
    | refine pc_exit ?_
    | (refine pc_cond (v := ?_) ?_ ?_; rotate_left 1; (focus ((try simp only [go_sem, *]); exact nm)); (first | refine cd_t ?_ | refine cd_f ?_ | refine cd_n (fun _ => ?_) (fun _ => ?_) | refine cd_b (fun _ => ?_) (fun _ => ?_)))
    | refine th_normal ?_
    | refine th_ret ?_
    | refine th_exit ?_
    | refine th_pan ?_
    | refine bl_normal ?_
    | refine bl_exit ?_
    | refine bl_pass rfl ?_
    | refine bl_ret ?_
    | refine bl_pan ?_
    | (refine rt_ret (y := ?_) ?_ ?_; rotate_left 1; (focus ((try simp only [go_sem, *]); exact nm)); refine rs_some ?_)
    | (refine rt_normal (y := ?_) ?_ ?_; rotate_left 1; (focus ((try simp only [go_sem, *]); exact nm)); refine rs_some ?_))
      exact ret_of (fin _ (allB_true fun j hj => hs j (by omega)))
  · have hlen' : ((a.objects.length : Int) == (b.objects.length : Int)) = false := by simp; omega
    have hd : decide (a.objects.length = b.objects.length) = false := decide_eq_false hlen
    repeat' (first
    | refine pops_nil ?_
    | refine pops_n rfl ?_
    | (refine pops_w' rfl rfl (v := ?_) ?_ ?_; rotate_left 1; (focus ((try simp only [go_sem, *]); exact nm)); (first | refine gw_tt ?_ | refine gw_ff ?_ | refine gw_tf ?_ | refine gw_ft ?_ | refine gw_tn (fun _ => ?_) (fun _ => ?_) | refine gw_fn (fun _ => ?_) (fun _ => ?_) | refine gw_tb (fun _ => ?_) (fun _ => ?_) | refine gw_fb (fun _ => ?_) (fun _ => ?_) | refine gw_u ?_))
    | (refine run_ev rfl rfl (x := ?_) ?_ ?_; rotate_left 1; (focus ((try simp only [go_sem, *]); exact nm)); (first | refine on_nop ?_ | (refine on_new (n := ?_) ?_ ?_; rotate_left 1; (focus ((try simp only [go_sem, *]); exact nm))) | (refine on_put (y := ?_) ?_ ?_; rotate_left 1; (focus ((try simp only [go_sem, *]); exact nm)); refine put_box (l' := ?_) ?_ ?_; rotate_left 1; (focus ((try simp only [go_sem, *]); exact nm))) | (refine on_born (n := ?_) ?_ ?_; rotate_left 1; (focus ((try simp only [go_sem, *]); exact nm))) | refine on_grow ?_))
    | (refine run_call rfl (y := ?_) ?_ ?_; rotate_left 1; (focus ((try simp only [go_sem, *]); exact nm)); refine call_pure (r := ?_) ?_ ?_ ?_; rotate_left 1; (focus (first | assumption | kernel_rfl)); (focus fail))
    | refine dr_nil ?_
    | refine dr_n rfl ?_
    | (refine dr_w' rfl rfl (v := ?_) ?_ ?_; rotate_left 1; (focus ((try simp only [go_sem, *]); exact nm)); (first | refine gw_tt ?_ | refine gw_ff ?_ | refine gw_tf ?_ | refine gw_ft ?_ | refine gw_tn (fun _ => ?_) (fun _ => ?_) | refine gw_fn (fun _ => ?_) (fun _ => ?_) | refine gw_tb (fun _ => ?_) (fun _ => ?_) | refine gw_fb (fun _ => ?_) (fun _ => ?_) | refine gw_u ?_))
    | (refine dr_ev rfl (x := ?_) (rd := ?_) ?_ ?_ ?_; rotate_left 2; (focus ((try simp only [go_sem, *]); exact nm)); (focus ((try simp only [go_sem, *]); exact nm)); (first | refine dn_nop ?_ | (refine dn_new (n := ?_) ?_ ?_; rotate_left 1; (focus ((try simp only [go_sem, *]); exact nm))) | (refine dn_put (y := ?_) ?_ ?_; rotate_left 1; (focus ((try simp only [go_sem, *]); exact nm)); refine dput_box (l' := ?_) ?_ ?_; rotate_left 1; (focus ((try simp only [go_sem, *]); exact nm))) | (refine dn_born (n := ?_) ?_ ?_; rotate_left 1; (focus ((try simp only [go_sem, *]); exact nm))) | refine dn_grow ?_))
    | (refine dr_call rfl (y := ?_) ?_ ?_; rotate_left 1; (focus ((try simp only [go_sem, *]); exact nm)); refine dcall_pure (r := ?_) ?_ ?_ ?_; rotate_left 1; (focus (first | assumption | kernel_rfl)); (focus fail))
    | (refine And.intro (by kernel_rfl : okAll _ = true) ?_)
    | refine pc_seq ?_
    | refine pc_region ?_
    | (refine pc_draw (by kernel_rfl) ?_)
    | refine pc_ret ?_
    | refine pc_skip ?_
    | refine pc_block ?_
    | refine pc_exit ?_
    | (refine pc_cond (v := ?_) ?_ ?_; rotate_left 1; (focus ((try simp only [go_sem, *]); exact nm)); (first | refine cd_t ?_ | refine cd_f ?_ | refine cd_n (fun _ => ?_) (fun _ => ?_) | refine cd_b (fun _ => ?_) (fun _ => ?_)))
    | refine th_normal ?_
    | refine th_ret ?_
    | refine th_exit ?_
    | refine th_pan ?_
    | refine bl_normal ?_
    | refine bl_exit ?_
    | refine bl_pass rfl ?_
    | refine bl_ret ?_
    | refine bl_pan ?_
    | (refine rt_ret (y := ?_) ?_ ?_; rotate_left 1; (focus ((try simp only [go_sem, *]); exact nm)); refine rs_some ?_)
    | (refine rt_normal (y := ?_) ?_ ?_; rotate_left 1; (focus ((try simp only [go_sem, *]); exact nm)); refine rs_some ?_))
    all_goals (refine ret_of ?_; unfold sameWd eqObs; rw [hd]; simp only [*, Bool.not_true, Bool.not_false, Bool.and_true, Bool.true_and, Bool.and_false, Bool.false_and, Bool.or_true, Bool.true_or, Bool.or_false, Bool.false_or, Bool.and_self, Bool.or_self, decide_true, decide_false, Bool.not_not, if_true, if_false, Bool.false_eq_true, eq_self])
def pagesO (o : Ob) : Int := if decide ((o.data.length : Int).tmod 16 > 0) = true then IntKind.i64.wrap (IntKind.i64.wrap (IntKind.i64.wrap ((o.data.length : Int).tdiv 16) + 1) + 1) else IntKind.i64.wrap (IntKind.i64.wrap ((o.data.length : Int).tdiv 16) + 1)
theorem obj_pages (o : Ob) : Pure Try.prog 49 [.agg (Ob.enc o)] (.int .i64 (pagesO o)) := by
  refine pureI (by kernel_rfl) (by simp only [go_sem, *]) (by simp only [go_sem, *]) Try.func49 Try.results49 rfl (by simp [Try.ntmps49]) (by kernel_rfl) ?_
  repeat' (first
    | refine pops_nil ?_
    | refine pops_n rfl ?_
    | (refine pops_w' rfl rfl (v := ?_) ?_ ?_; rotate_left 1; (focus ((try simp only [go_sem, *]); exact nm)); (first | refine gw_tt ?_ | refine gw_ff ?_ | refine gw_tf ?_ | refine gw_ft ?_ | refine gw_tn (fun _ => ?_) (fun _ => ?_) | refine gw_fn (fun _ => ?_) (fun _ => ?_) | refine gw_tb (fun _ => ?_) (fun _ => ?_) | refine gw_fb (fun _ => ?_) (fun _ => ?_) | refine gw_u ?_))
    | (refine run_ev rfl rfl (x := ?_) ?_ ?_; rotate_left 1; (focus ((try simp only [go_sem, *]); exact nm)); (first | refine on_nop ?_ | (refine on_new (n := ?_) ?_ ?_; rotate_left 1; (focus ((try simp only [go_sem, *]); exact nm))) | (refine on_put (y := ?_) ?_ ?_; rotate_left 1; (focus ((try simp only [go_sem, *]); exact nm)); refine put_box (l' := ?_) ?_ ?_; rotate_left 1; (focus ((try simp only [go_sem, *]); exact nm))) | (refine on_born (n := ?_) ?_ ?_; rotate_left 1; (focus ((try simp only [go_sem, *]); exact nm))) | refine on_grow ?_))
    | (refine run_call rfl (y := ?_) ?_ ?_; rotate_left 1; (focus ((try simp only [go_sem, *]); exact nm)); refine call_pure (r := ?_) ?_ ?_ ?_; rotate_left 1; (focus (first | assumption | kernel_rfl)); (focus fail))
    | refine dr_nil ?_
    | refine dr_n rfl ?_
    | (refine dr_w' rfl rfl (v := ?_) ?_ ?_; rotate_left 1; (focus ((try simp only [go_sem, *]); exact nm)); (first | refine gw_tt ?_ | refine gw_ff ?_ | refine gw_tf ?_ | refine gw_ft ?_ | refine gw_tn (fun _ => ?_) (fun _ => ?_) | refine gw_fn (fun _ => ?_) (fun _ => ?_) | refine gw_tb (fun _ => ?_) (fun _ => ?_) | refine gw_fb (fun _ => ?_) (fun _ => ?_) | refine gw_u ?_))
    | (refine dr_ev rfl (x := ?_) (rd := ?_) ?_ ?_ ?_; rotate_left 2; (focus ((try simp only [go_sem, *]); exact nm)); (focus ((try simp only [go_sem, *]); exact nm)); (first | refine dn_nop ?_ | (refine dn_new (n := ?_) ?_ ?_; rotate_left 1; (focus ((try simp only [go_sem, *]); exact nm))) | (refine dn_put (y := ?_) ?_ ?_; rotate_left 1; (focus ((try simp only [go_sem, *]); exact nm)); refine dput_box (l' := ?_) ?_ ?_; rotate_left 1; (focus ((try simp only [go_sem, *]); exact nm))) | (refine dn_born (n := ?_) ?_ ?_; rotate_left 1; (focus ((try simp only [go_sem, *]); exact nm))) | refine dn_grow ?_))
    | (refine dr_call rfl (y := ?_) ?_ ?_; rotate_left 1; (focus ((try simp only [go_sem, *]); exact nm)); refine dcall_pure (r := ?_) ?_ ?_ ?_; rotate_left 1; (focus (first | assumption | kernel_rfl)); (focus fail))
    | (refine And.intro (by kernel_rfl : okAll _ = true) ?_)
    | refine pc_seq ?_
    | refine pc_region ?_
    | (refine pc_draw (by kernel_rfl) ?_)
    | refine pc_ret ?_
    | refine pc_skip ?_
    | refine pc_block ?_
    | refine pc_exit ?_
    | (refine pc_cond (v := ?_) ?_ ?_; rotate_left 1; (focus ((try simp only [go_sem, *]); exact nm)); (first | refine cd_t ?_ | refine cd_f ?_ | refine cd_n (fun _ => ?_) (fun _ => ?_) | refine cd_b (fun _ => ?_) (fun _ => ?_)))
    | refine th_normal ?_
    | refine th_ret ?_
    | refine th_exit ?_
    | refine th_pan ?_
    | refine bl_normal ?_
    | refine bl_exit ?_
    | refine bl_pass rfl ?_
    | refine bl_ret ?_
    | refine bl_pan ?_
    | (refine rt_ret (y := ?_) ?_ ?_; rotate_left 1; (focus ((try simp only [go_sem, *]); exact nm)); refine rs_some ?_)
    | (refine rt_normal (y := ?_) ?_ ?_; rotate_left 1; (focus ((try simp only [go_sem, *]); exact nm)); refine rs_some ?_))
  all_goals (rename_i hc; unfold pagesO; rw [hc]; rfl)
def pagesR (o : Ob) : Int := IntKind.i64.wrap (1 + IntKind.i64.wrap ((IntKind.i64.wrap (IntKind.i64.wrap ((o.data.length : Int) + 16) - 1)).tdiv 16))
theorem r13_pages (o : Ob) : Pure Try.prog 50 [.agg (Ob.enc o)] (.int .i64 (pagesR o)) := by
  refine pureI (by kernel_rfl) (by simp only [go_sem, *]) (by simp only [go_sem, *]) Try.func50 Try.results50 rfl (by simp [Try.ntmps50]) (by kernel_rfl) ?_
  repeat' (first
    | refine pops_nil ?_
    | refine pops_n rfl ?_
    | (refine pops_w' rfl rfl (v := ?_) ?_ ?_; rotate_left 1; (focus ((try simp only [go_sem, *]); exact nm)); (first | refine gw_tt ?_ | refine gw_ff ?_ | refine gw_tf ?_ | refine gw_ft ?_ | refine gw_tn (fun _ => ?_) (fun _ => ?_) | refine gw_fn (fun _ => ?_) (fun _ => ?_) | refine gw_tb (fun _ => ?_) (fun _ => ?_) | refine gw_fb (fun _ => ?_) (fun _ => ?_) | refine gw_u ?_))
    | (refine run_ev rfl rfl (x := ?_) ?_ ?_; rotate_left 1; (focus ((try simp only [go_sem, *]); exact nm)); (first | refine on_nop ?_ | (refine on_new (n := ?_) ?_ ?_; rotate_left 1; (focus ((try simp only [go_sem, *]); exact nm))) | (refine on_put (y := ?_) ?_ ?_; rotate_left 1; (focus ((try simp only [go_sem, *]); exact nm)); refine put_box (l' := ?_) ?_ ?_; rotate_left 1; (focus ((try simp only [go_sem, *]); exact nm))) | (refine on_born (n := ?_) ?_ ?_; rotate_left 1; (focus ((try simp only [go_sem, *]); exact nm))) | refine on_grow ?_))
    | (refine run_call rfl (y := ?_) ?_ ?_; rotate_left 1; (focus ((try simp only [go_sem, *]); exact nm)); refine call_pure (r := ?_) ?_ ?_ ?_; rotate_left 1; (focus (first | assumption | kernel_rfl)); (focus fail))
    | refine dr_nil ?_
    | refine dr_n rfl ?_
    | (refine dr_w' rfl rfl (v := ?_) ?_ ?_; rotate_left 1; (focus ((try simp only [go_sem, *]); exact nm)); (first | refine gw_tt ?_ | refine gw_ff ?_ | refine gw_tf ?_ | refine gw_ft ?_ | refine gw_tn (fun _ => ?_) (fun _ => ?_) | refine gw_fn (fun _ => ?_) (fun _ => ?_) | refine gw_tb (fun _ => ?_) (fun _ => ?_) | refine gw_fb (fun _ => ?_) (fun _ => ?_) | refine gw_u ?_))
    | (refine dr_ev rfl (x := ?_) (rd := ?_) ?_ ?_ ?_; rotate_left 2; (focus ((try simp only [go_sem, *]); exact nm)); (focus ((try simp only [go_sem, *]); exact nm)); (first | refine dn_nop ?_ | (refine dn_new (n := ?_) ?_ ?_; rotate_left 1; (focus ((try simp only [go_sem, *]); exact nm))) | (refine dn_put (y := ?_) ?_ ?_; rotate_left 1; (focus ((try simp only [go_sem, *]); exact nm)); refine dput_box (l' := ?_) ?_ ?_; rotate_left 1; (focus ((try simp only [go_sem, *]); exact nm))) | (refine dn_born (n := ?_) ?_ ?_; rotate_left 1; (focus ((try simp only [go_sem, *]); exact nm))) | refine dn_grow ?_))
    | (refine dr_call rfl (y := ?_) ?_ ?_; rotate_left 1; (focus ((try simp only [go_sem, *]); exact nm)); refine dcall_pure (r := ?_) ?_ ?_ ?_; rotate_left 1; (focus (first | assumption | kernel_rfl)); (focus fail))
    | (refine And.intro (by kernel_rfl : okAll _ = true) ?_)
    | refine pc_seq ?_
    | refine pc_region ?_
    | (refine pc_draw (by kernel_rfl) ?_)
    | refine pc_ret ?_
    | refine pc_skip ?_
    | refine pc_block ?_
    | refine pc_exit ?_
    | (refine pc_cond (v := ?_) ?_ ?_; rotate_left 1; (focus ((try simp only [go_sem, *]); exact nm)); (first | refine cd_t ?_ | refine cd_f ?_ | refine cd_n (fun _ => ?_) (fun _ => ?_) | refine cd_b (fun _ => ?_) (fun _ => ?_)))
    | refine th_normal ?_
    | refine th_ret ?_
    | refine th_exit ?_
    | refine th_pan ?_
    | refine bl_normal ?_
    | refine bl_exit ?_
    | refine bl_pass rfl ?_
    | refine bl_ret ?_
    | refine bl_pan ?_
    | (refine rt_ret (y := ?_) ?_ ?_; rotate_left 1; (focus ((try simp only [go_sem, *]); exact nm)); refine rs_some ?_)
    | (refine rt_normal (y := ?_) ?_ ?_; rotate_left 1; (focus ((try simp only [go_sem, *]); exact nm)); refine rs_some ?_))
  all_goals rfl
theorem r13_sameLabel (a b : List Pr) (hl : a.length ≤ 9223372036854775807) : Pure Try.prog 34 [.sl (a.map Pr.enc), .sl (b.map Pr.enc)] (.bool (decide (a = b))) := by
  refine pureI (by kernel_rfl) (by simp only [go_sem, *]) (by simp only [go_sem, *]) Try.func34 Try.results34 rfl (by simp [Try.ntmps34]) (by kernel_rfl) ?_
  repeat' (first
    | refine pops_nil ?_
    | refine pops_n rfl ?_
    | (refine pops_w' rfl rfl (v := ?_) ?_ ?_; rotate_left 1; (focus ((try simp only [go_sem, *]); exact nm)); (first | refine gw_tt ?_ | refine gw_ff ?_ | refine gw_tf ?_ | refine gw_ft ?_ | refine gw_tn (fun _ => ?_) (fun _ => ?_) | refine gw_fn (fun _ => ?_) (fun _ => ?_) | refine gw_tb (fun _ => ?_) (fun _ => ?_) | refine gw_fb (fun _ => ?_) (fun _ => ?_) | refine gw_u ?_))
    | (refine run_ev rfl rfl (x := ?_) ?_ ?_; rotate_left 1; (focus ((try simp only [go_sem, *]); exact nm)); (first | refine on_nop ?_ | (refine on_new (n := ?_) ?_ ?_; rotate_left 1; (focus ((try simp only [go_sem, *]); exact nm))) | (refine on_put (y := ?_) ?_ ?_; rotate_left 1; (focus ((try simp only [go_sem, *]); exact nm)); refine put_box (l' := ?_) ?_ ?_; rotate_left 1; (focus ((try simp only [go_sem, *]); exact nm))) | (refine on_born (n := ?_) ?_ ?_; rotate_left 1; (focus ((try simp only [go_sem, *]); exact nm))) | refine on_grow ?_))
    | (refine run_call rfl (y := ?_) ?_ ?_; rotate_left 1; (focus ((try simp only [go_sem, *]); exact nm)); refine call_pure (r := ?_) ?_ ?_ ?_; rotate_left 1; (focus (first | assumption | kernel_rfl)); (focus first | exact r2_same _ _ hl))
    | refine dr_nil ?_
    | refine dr_n rfl ?_
    | (refine dr_w' rfl rfl (v := ?_) ?_ ?_; rotate_left 1; (focus ((try simp only [go_sem, *]); exact nm)); (first | refine gw_tt ?_ | refine gw_ff ?_ | refine gw_tf ?_ | refine gw_ft ?_ | refine gw_tn (fun _ => ?_) (fun _ => ?_) | refine gw_fn (fun _ => ?_) (fun _ => ?_) | refine gw_tb (fun _ => ?_) (fun _ => ?_) | refine gw_fb (fun _ => ?_) (fun _ => ?_) | refine gw_u ?_))
    | (refine dr_ev rfl (x := ?_) (rd := ?_) ?_ ?_ ?_; rotate_left 2; (focus ((try simp only [go_sem, *]); exact nm)); (focus ((try simp only [go_sem, *]); exact nm)); (first | refine dn_nop ?_ | (refine dn_new (n := ?_) ?_ ?_; rotate_left 1; (focus ((try simp only [go_sem, *]); exact nm))) | (refine dn_put (y := ?_) ?_ ?_; rotate_left 1; (focus ((try simp only [go_sem, *]); exact nm)); refine dput_box (l' := ?_) ?_ ?_; rotate_left 1; (focus ((try simp only [go_sem, *]); exact nm))) | (refine dn_born (n := ?_) ?_ ?_; rotate_left 1; (focus ((try simp only [go_sem, *]); exact nm))) | refine dn_grow ?_))
    | (refine dr_call rfl (y := ?_) ?_ ?_; rotate_left 1; (focus ((try simp only [go_sem, *]); exact nm)); refine dcall_pure (r := ?_) ?_ ?_ ?_; rotate_left 1; (focus (first | assumption | kernel_rfl)); (focus first | exact r2_same _ _ hl))
    | (refine And.intro (by kernel_rfl : okAll _ = true) ?_)
    | refine pc_seq ?_
    | refine pc_region ?_
    | (refine pc_draw (by kernel_rfl) ?_)
    | refine pc_ret ?_
    | refine pc_skip ?_
    | refine pc_block ?_
    | refine pc_exit ?_
    | (refine pc_cond (v := ?_) ?_ ?_; rotate_left 1; (focus ((try simp only [go_sem, *]); exact nm)); (first | refine cd_t ?_ | refine cd_f ?_ | refine cd_n (fun _ => ?_) (fun _ => ?_) | refine cd_b (fun _ => ?_) (fun _ => ?_)))
    | refine th_normal ?_
    | refine th_ret ?_
    | refine th_exit ?_
    | refine th_pan ?_
    | refine bl_normal ?_
    | refine bl_exit ?_
    | refine bl_pass rfl ?_
    | refine bl_ret ?_
    | refine bl_pan ?_
    | (refine rt_ret (y := ?_) ?_ ?_; rotate_left 1; (focus ((try simp only [go_sem, *]); exact nm)); refine rs_some ?_)
    | (refine rt_normal (y := ?_) ?_ ?_; rotate_left 1; (focus ((try simp only [go_sem, *]); exact nm)); refine rs_some ?_))
  all_goals rfl
def levUp (n : Int) : Int := if (levOf n == 0) = true then 5 else levOf n
theorem r01_raise (n : Int) : Pure Try.prog 137 [.int .i64 n] (.int .i64 (levUp n)) := by
  refine pureI (by kernel_rfl) (by simp only [go_sem, *]) (by simp only [go_sem, *]) Try.func137 Try.results137 rfl (by simp [Try.ntmps137]) (by kernel_rfl) ?_
  repeat' (first
    | refine pops_nil ?_
    | refine pops_n rfl ?_
    | (refine pops_w' rfl rfl (v := ?_) ?_ ?_; rotate_left 1; (focus ((try simp only [go_sem, *]); exact nm)); (first | refine gw_tt ?_ | refine gw_ff ?_ | refine gw_tf ?_ | refine gw_ft ?_ | refine gw_tn (fun _ => ?_) (fun _ => ?_) | refine gw_fn (fun _ => ?_) (fun _ => ?_) | refine gw_tb (fun _ => ?_) (fun _ => ?_) | refine gw_fb (fun _ => ?_) (fun _ => ?_) | refine gw_u ?_))
    | (refine run_ev rfl rfl (x := ?_) ?_ ?_; rotate_left 1; (focus ((try simp only [go_sem, *]); exact nm)); (first | refine on_nop ?_ | (refine on_new (n := ?_) ?_ ?_; rotate_left 1; (focus ((try simp only [go_sem, *]); exact nm))) | (refine on_put (y := ?_) ?_ ?_; rotate_left 1; (focus ((try simp only [go_sem, *]); exact nm)); refine put_box (l' := ?_) ?_ ?_; rotate_left 1; (focus ((try simp only [go_sem, *]); exact nm))) | (refine on_born (n := ?_) ?_ ?_; rotate_left 1; (focus ((try simp only [go_sem, *]); exact nm))) | refine on_grow ?_))
    | (refine run_call rfl (y := ?_) ?_ ?_; rotate_left 1; (focus ((try simp only [go_sem, *]); exact nm)); refine call_pure (r := ?_) ?_ ?_ ?_; rotate_left 1; (focus (first | assumption | kernel_rfl)); (focus first | exact r01_of _))
    | refine dr_nil ?_
    | refine dr_n rfl ?_
    | (refine dr_w' rfl rfl (v := ?_) ?_ ?_; rotate_left 1; (focus ((try simp only [go_sem, *]); exact nm)); (first | refine gw_tt ?_ | refine gw_ff ?_ | refine gw_tf ?_ | refine gw_ft ?_ | refine gw_tn (fun _ => ?_) (fun _ => ?_) | refine gw_fn (fun _ => ?_) (fun _ => ?_) | refine gw_tb (fun _ => ?_) (fun _ => ?_) | refine gw_fb (fun _ => ?_) (fun _ => ?_) | refine gw_u ?_))
    | (refine dr_ev rfl (x := ?_) (rd := ?_) ?_ ?_ ?_; rotate_left 2; (focus ((try simp only [go_sem, *]); exact nm)); (focus ((try simp only [go_sem, *]); exact nm)); (first | refine dn_nop ?_ | (refine dn_new (n := ?_) ?_ ?_; rotate_left 1; (focus ((try simp only [go_sem, *]); exact nm))) | (refine dn_put (y := ?_) ?_ ?_; rotate_left 1; (focus ((try simp only [go_sem, *]); exact nm)); refine dput_box (l' := ?_) ?_ ?_; rotate_left 1; (focus ((try simp only [go_sem, *]); exact nm))) | (refine dn_born (n := ?_) ?_ ?_; rotate_left 1; (focus ((try simp only [go_sem, *]); exact nm))) | refine dn_grow ?_))
    | (refine dr_call rfl (y := ?_) ?_ ?_; rotate_left 1; (focus ((try simp only [go_sem, *]); exact nm)); refine dcall_pure (r := ?_) ?_ ?_ ?_; rotate_left 1; (focus (first | assumption | kernel_rfl)); (focus first | exact r01_of _))
    | (refine And.intro (by kernel_rfl : okAll _ = true) ?_)
    | refine pc_seq ?_
    | refine pc_region ?_
    | (refine pc_draw (by kernel_rfl) ?_)
    | refine pc_ret ?_
    | refine pc_skip ?_
    | refine pc_block ?_
    | refine pc_exit ?_
    | (refine pc_cond (v := ?_) ?_ ?_; rotate_left 1; (focus ((try simp only [go_sem, *]); exact nm)); (first | refine cd_t ?_ | refine cd_f ?_ | refine cd_n (fun _ => ?_) (fun _ => ?_) | refine cd_b (fun _ => ?_) (fun _ => ?_)))
    | refine th_normal ?_
    | refine th_ret ?_
    | refine th_exit ?_
    | refine th_pan ?_
    | refine bl_normal ?_
    | refine bl_exit ?_
    | refine bl_pass rfl ?_
    | refine bl_ret ?_
    | refine bl_pan ?_
    | (refine rt_ret (y := ?_) ?_ ?_; rotate_left 1; (focus ((try simp only [go_sem, *]); exact nm)); refine rs_some ?_)
    | (refine rt_normal (y := ?_) ?_ ?_; rotate_left 1; (focus ((try simp only [go_sem, *]); exact nm)); refine rs_some ?_))
  all_goals (unfold levUp; simp only [*, if_true, if_false, Bool.false_eq_true]; try rfl)
def upPr (p : Pr) : Pr := ⟨p.cat, levUp p.lev⟩
theorem r2_raise (l : List Pr) (hl : l.length ≤ 900000) : Pure Try.prog 107 [.sl (l.map Pr.enc)] (.sl ((l.map upPr).map Pr.enc)) := by
  refine pureI (by kernel_rfl) (by simp only [go_sem, *]) (by simp only [go_sem, *]) Try.func107 Try.results107 rfl (by simp [Try.ntmps107]) (by kernel_rfl) ?_
  repeat' (first
    | refine pops_nil ?_
    | refine pops_n rfl ?_
    | (refine pops_w' rfl rfl (v := ?_) ?_ ?_; rotate_left 1; (focus ((try simp only [go_sem, *]); exact nm)); (first | refine gw_tt ?_ | refine gw_ff ?_ | refine gw_tf ?_ | refine gw_ft ?_ | refine gw_tn (fun _ => ?_) (fun _ => ?_) | refine gw_fn (fun _ => ?_) (fun _ => ?_) | refine gw_tb (fun _ => ?_) (fun _ => ?_) | refine gw_fb (fun _ => ?_) (fun _ => ?_) | refine gw_u ?_))
    | (refine run_ev rfl rfl (x := ?_) ?_ ?_; rotate_left 1; (focus ((try simp only [go_sem, *]); exact nm)); (first | refine on_nop ?_ | (refine on_new (n := ?_) ?_ ?_; rotate_left 1; (focus ((try simp only [go_sem, *]); exact nm))) | (refine on_put (y := ?_) ?_ ?_; rotate_left 1; (focus ((try simp only [go_sem, *]); exact nm)); refine put_box (l' := ?_) ?_ ?_; rotate_left 1; (focus ((try simp only [go_sem, *]); exact nm))) | (refine on_born (n := ?_) ?_ ?_; rotate_left 1; (focus ((try simp only [go_sem, *]); exact nm))) | refine on_grow ?_))
    | (refine run_call rfl (y := ?_) ?_ ?_; rotate_left 1; (focus ((try simp only [go_sem, *]); exact nm)); refine call_pure (r := ?_) ?_ ?_ ?_; rotate_left 1; (focus (first | assumption | kernel_rfl)); (focus fail))
    | refine dr_nil ?_
    | refine dr_n rfl ?_
    | (refine dr_w' rfl rfl (v := ?_) ?_ ?_; rotate_left 1; (focus ((try simp only [go_sem, *]); exact nm)); (first | refine gw_tt ?_ | refine gw_ff ?_ | refine gw_tf ?_ | refine gw_ft ?_ | refine gw_tn (fun _ => ?_) (fun _ => ?_) | refine gw_fn (fun _ => ?_) (fun _ => ?_) | refine gw_tb (fun _ => ?_) (fun _ => ?_) | refine gw_fb (fun _ => ?_) (fun _ => ?_) | refine gw_u ?_))
    | (refine dr_ev rfl (x := ?_) (rd := ?_) ?_ ?_ ?_; rotate_left 2; (focus ((try simp only [go_sem, *]); exact nm)); (focus ((try simp only [go_sem, *]); exact nm)); (first | refine dn_nop ?_ | (refine dn_new (n := ?_) ?_ ?_; rotate_left 1; (focus ((try simp only [go_sem, *]); exact nm))) | (refine dn_put (y := ?_) ?_ ?_; rotate_left 1; (focus ((try simp only [go_sem, *]); exact nm)); refine dput_box (l' := ?_) ?_ ?_; rotate_left 1; (focus ((try simp only [go_sem, *]); exact nm))) | (refine dn_born (n := ?_) ?_ ?_; rotate_left 1; (focus ((try simp only [go_sem, *]); exact nm))) | refine dn_grow ?_))
    | (refine dr_call rfl (y := ?_) ?_ ?_; rotate_left 1; (focus ((try simp only [go_sem, *]); exact nm)); refine dcall_pure (r := ?_) ?_ ?_ ?_; rotate_left 1; (focus (first | assumption | kernel_rfl)); (focus fail))
    | (refine And.intro (by kernel_rfl : okAll _ = true) ?_)
    | refine pc_seq ?_
    | refine pc_region ?_
    | (refine pc_draw (by kernel_rfl) ?_)
    | refine pc_ret ?_
    | refine pc_skip ?_
    | refine pc_block ?_
    | refine pc_exit ?_
    | (refine pc_cond (v := ?_) ?_ ?_; rotate_left 1; (focus ((try simp only [go_sem, *]); exact nm)); (first | refine cd_t ?_ | refine cd_f ?_ | refine cd_n (fun _ => ?_) (fun _ => ?_) | refine cd_b (fun _ => ?_) (fun _ => ?_)))
    | refine th_normal ?_
    | refine th_ret ?_
    | refine th_exit ?_
    | refine th_pan ?_
    | refine bl_normal ?_
    | refine bl_exit ?_
    | refine bl_pass rfl ?_
    | refine bl_ret ?_
    | refine bl_pan ?_
    | (refine rt_ret (y := ?_) ?_ ?_; rotate_left 1; (focus ((try simp only [go_sem, *]); exact nm)); refine rs_some ?_)
    | (refine rt_normal (y := ?_) ?_ ?_; rotate_left 1; (focus ((try simp only [go_sem, *]); exact nm)); refine rs_some ?_))
  refine pc_loop (S := Nat × List Pr × Nat) (fun s => l.length - s.1) (fun s => s.1 ≤ l.length ∧ (l.take s.1).map upPr = s.2.1) (fun s => [(0, .sl (l.map Pr.enc)), (3, accV s.2.2 s.2.1), (4, .int .i64 s.1)]) (fun s => accG s.2.2 67 2 Pr.enc s.2.1) (fun s => accM 0 s.2.2 s.2.1) (0, [], 0) ⟨Nat.zero_le _, rfl⟩ (by simp only [accV_nil, accG_nil, accM_nil]; (refine keepI ?_ ?_ <;> repeat' (first | exact ke_nil | exact kg_nil | refine ke_cons (by (try simp only [go_sem, *]); try rfl) (by simp only [go_sem, *]) ?_ | refine kg_box (by (try simp only [go_sem, *]); try rfl) (by omega) (by simp only [go_sem, *]) ?_ | refine kg_row (by (try simp only [go_sem, *]); try rfl) (by omega) (by simp only [go_sem, *]) ?_))) ?_
  rintro ⟨n, acc, id⟩ ⟨hn, hs⟩
  simp only at hn hs
  have ha : acc.length < 1000000 := by rw [← hs]; simp only [List.length_map, List.length_take]; omega
  have hb1 := app_max ha
  have hb2 := app_by (b := 16) ha (by decide)
  rcases Nat.lt_or_ge n l.length with hlt | hge
  · obtain ⟨x, hx⟩ := lt_len hlt
    have h0 := lt_true hlt
    have h4 := wrap_nat n (by omega)
    have hy : (l.take (n + 1)).map upPr = (l.take n).map upPr ++ [upPr x] := by rw [take_snoc hx, List.map_append]; rfl
    rcases or_nil acc with hnil | hne
    · subst hnil
      simp only [accV_nil, accG_nil, accM_nil]
      repeat' (first
    | refine pops_nil ?_
    | refine pops_n rfl ?_
    | (refine pops_w' rfl rfl (v := ?_) ?_ ?_; rotate_left 1; (focus ((try simp only [go_sem, *]); exact nm)); (first | refine gw_tt ?_ | refine gw_ff ?_ | refine gw_tf ?_ | refine gw_ft ?_ | refine gw_tn (fun _ => ?_) (fun _ => ?_) | refine gw_fn (fun _ => ?_) (fun _ => ?_) | refine gw_tb (fun _ => ?_) (fun _ => ?_) | refine gw_fb (fun _ => ?_) (fun _ => ?_) | refine gw_u ?_))
    | (refine run_ev rfl rfl (x := ?_) ?_ ?_; rotate_left 1; (focus ((try simp only [go_sem, *]); exact nm)); (first | refine on_nop ?_ | (refine on_new (n := ?_) ?_ ?_; rotate_left 1; (focus ((try simp only [go_sem, *]); exact nm))) | (refine on_put (y := ?_) ?_ ?_; rotate_left 1; (focus ((try simp only [go_sem, *]); exact nm)); refine put_box (l' := ?_) ?_ ?_; rotate_left 1; (focus ((try simp only [go_sem, *]); exact nm))) | (refine on_born (n := ?_) ?_ ?_; rotate_left 1; (focus ((try simp only [go_sem, *]); exact nm))) | refine on_grow ?_))
    | (refine run_call rfl (y := ?_) ?_ ?_; rotate_left 1; (focus ((try simp only [go_sem, *]); exact nm)); refine call_pure (r := ?_) ?_ ?_ ?_; rotate_left 1; (focus (first | assumption | kernel_rfl)); (focus first | exact r01_raise _))
    | refine dr_nil ?_
    | refine dr_n rfl ?_
    | (refine dr_w' rfl rfl (v := ?_) ?_ ?_; rotate_left 1; (focus ((try simp only [go_sem, *]); exact nm)); (first | refine gw_tt ?_ | refine gw_ff ?_ | refine gw_tf ?_ | refine gw_ft ?_ | refine gw_tn (fun _ => ?_) (fun _ => ?_) | refine gw_fn (fun _ => ?_) (fun _ => ?_) | refine gw_tb (fun _ => ?_) (fun _ => ?_) | refine gw_fb (fun _ => ?_) (fun _ => ?_) | refine gw_u ?_))
    | (refine dr_ev rfl (x := ?_) (rd := ?_) ?_ ?_ ?_; rotate_left 2; (focus ((try simp only [go_sem, *]); exact nm)); (focus ((try simp only [go_sem, *]); exact nm)); (first | refine dn_nop ?_ | (refine dn_new (n := ?_) ?_ ?_; rotate_left 1; (focus ((try simp only [go_sem, *]); exact nm))) | (refine dn_put (y := ?_) ?_ ?_; rotate_left 1; (focus ((try simp only [go_sem, *]); exact nm)); refine dput_box (l' := ?_) ?_ ?_; rotate_left 1; (focus ((try simp only [go_sem, *]); exact nm))) | (refine dn_born (n := ?_) ?_ ?_; rotate_left 1; (focus ((try simp only [go_sem, *]); exact nm))) | refine dn_grow ?_))
    | (refine dr_call rfl (y := ?_) ?_ ?_; rotate_left 1; (focus ((try simp only [go_sem, *]); exact nm)); refine dcall_pure (r := ?_) ?_ ?_ ?_; rotate_left 1; (focus (first | assumption | kernel_rfl)); (focus first | exact r01_raise _))
    | (refine And.intro (by kernel_rfl : okAll _ = true) ?_)
    | refine pc_seq ?_
    | refine pc_region ?_
    | (refine pc_draw (by kernel_rfl) ?_)
    | refine pc_ret ?_
    | refine pc_skip ?_
    | refine pc_block ?_
    | refine pc_exit ?_
    | (refine pc_cond (v := ?_) ?_ ?_; rotate_left 1; (focus ((try simp only [go_sem, *]); exact nm)); (first | refine cd_t ?_ | refine cd_f ?_ | refine cd_n (fun _ => ?_) (fun _ => ?_) | refine cd_b (fun _ => ?_) (fun _ => ?_)))
    | refine th_normal ?_
    | refine th_ret ?_
    | refine th_exit ?_
    | refine th_pan ?_
    | refine bl_normal ?_
    | refine bl_exit ?_
    | refine bl_pass rfl ?_
    | refine bl_ret ?_
    | refine bl_pan ?_
    | (refine rt_ret (y := ?_) ?_ ?_; rotate_left 1; (focus ((try simp only [go_sem, *]); exact nm)); refine rs_some ?_)
    | (refine rt_normal (y := ?_) ?_ ?_; rotate_left 1; (focus ((try simp only [go_sem, *]); exact nm)); refine rs_some ?_))
      · refine again (n + 1, [] ++ [upPr x], 0) ⟨hlt, by rw [hy, hs]⟩ (by simp only; omega) ?_
        simp only [accV_snoc, accG_snoc, accM_snoc]
        (refine keepI ?_ ?_ <;> repeat' (first | exact ke_nil | exact kg_nil | refine ke_cons (by (try simp only [go_sem, *]); try rfl) (by simp only [go_sem, *]) ?_ | refine kg_box (by (try simp only [go_sem, *]); try rfl) (by omega) (by simp only [go_sem, *]) ?_ | refine kg_row (by (try simp only [go_sem, *]); try rfl) (by omega) (by simp only [go_sem, *]) ?_))
    · simp only [accV_ne hne, accG_ne hne, accM_ne hne]
      repeat' (first
    | refine pops_nil ?_
    | refine pops_n rfl ?_
    | (refine pops_w' rfl rfl (v := ?_) ?_ ?_; rotate_left 1; (focus ((try simp only [go_sem, *]); exact nm)); (first | refine gw_tt ?_ | refine gw_ff ?_ | refine gw_tf ?_ | refine gw_ft ?_ | refine gw_tn (fun _ => ?_) (fun _ => ?_) | refine gw_fn (fun _ => ?_) (fun _ => ?_) | refine gw_tb (fun _ => ?_) (fun _ => ?_) | refine gw_fb (fun _ => ?_) (fun _ => ?_) | refine gw_u ?_))
    | (refine run_ev rfl rfl (x := ?_) ?_ ?_; rotate_left 1; (focus ((try simp only [go_sem, *]); exact nm)); (first | refine on_nop ?_ | (refine on_new (n := ?_) ?_ ?_; rotate_left 1; (focus ((try simp only [go_sem, *]); exact nm))) | (refine on_put (y := ?_) ?_ ?_; rotate_left 1; (focus ((try simp only [go_sem, *]); exact nm)); refine put_box (l' := ?_) ?_ ?_; rotate_left 1; (focus ((try simp only [go_sem, *]); exact nm))) | (refine on_born (n := ?_) ?_ ?_; rotate_left 1; (focus ((try simp only [go_sem, *]); exact nm))) | refine on_grow ?_))
    | (refine run_call rfl (y := ?_) ?_ ?_; rotate_left 1; (focus ((try simp only [go_sem, *]); exact nm)); refine call_pure (r := ?_) ?_ ?_ ?_; rotate_left 1; (focus (first | assumption | kernel_rfl)); (focus first | exact r01_raise _))
    | refine dr_nil ?_
    | refine dr_n rfl ?_
    | (refine dr_w' rfl rfl (v := ?_) ?_ ?_; rotate_left 1; (focus ((try simp only [go_sem, *]); exact nm)); (first | refine gw_tt ?_ | refine gw_ff ?_ | refine gw_tf ?_ | refine gw_ft ?_ | refine gw_tn (fun _ => ?_) (fun _ => ?_) | refine gw_fn (fun _ => ?_) (fun _ => ?_) | refine gw_tb (fun _ => ?_) (fun _ => ?_) | refine gw_fb (fun _ => ?_) (fun _ => ?_) | refine gw_u ?_))
    | (refine dr_ev rfl (x := ?_) (rd := ?_) ?_ ?_ ?_; rotate_left 2; (focus ((try simp only [go_sem, *]); exact nm)); (focus ((try simp only [go_sem, *]); exact nm)); (first | refine dn_nop ?_ | (refine dn_new (n := ?_) ?_ ?_; rotate_left 1; (focus ((try simp only [go_sem, *]); exact nm))) | (refine dn_put (y := ?_) ?_ ?_; rotate_left 1; (focus ((try simp only [go_sem, *]); exact nm)); refine dput_box (l' := ?_) ?_ ?_; rotate_left 1; (focus ((try simp only [go_sem, *]); exact nm))) | (refine dn_born (n := ?_) ?_ ?_; rotate_left 1; (focus ((try simp only [go_sem, *]); exact nm))) | refine dn_grow ?_))
    | (refine dr_call rfl (y := ?_) ?_ ?_; rotate_left 1; (focus ((try simp only [go_sem, *]); exact nm)); refine dcall_pure (r := ?_) ?_ ?_ ?_; rotate_left 1; (focus (first | assumption | kernel_rfl)); (focus first | exact r01_raise _))
    | (refine And.intro (by kernel_rfl : okAll _ = true) ?_)
    | refine pc_seq ?_
    | refine pc_region ?_
    | (refine pc_draw (by kernel_rfl) ?_)
    | refine pc_ret ?_
    | refine pc_skip ?_
    | refine pc_block ?_
    | refine pc_exit ?_
    | (refine pc_cond (v := ?_) ?_ ?_; rotate_left 1; (focus ((try simp only [go_sem, *]); exact nm)); (first | refine cd_t ?_ | refine cd_f ?_ | refine cd_n (fun _ => ?_) (fun _ => ?_) | refine cd_b (fun _ => ?_) (fun _ => ?_)))
    | refine th_normal ?_
    | refine th_ret ?_
    | refine th_exit ?_
    | refine th_pan ?_
    | refine bl_normal ?_
    | refine bl_exit ?_
    | refine bl_pass rfl ?_
    | refine bl_ret ?_
    | refine bl_pan ?_
    | (refine rt_ret (y := ?_) ?_ ?_; rotate_left 1; (focus ((try simp only [go_sem, *]); exact nm)); refine rs_some ?_)
    | (refine rt_normal (y := ?_) ?_ ?_; rotate_left 1; (focus ((try simp only [go_sem, *]); exact nm)); refine rs_some ?_))
      · refine again (n + 1, acc ++ [upPr x], id) ⟨hlt, by rw [hy, hs]⟩ (by simp only; omega) ?_
        simp only [accV_snoc, accG_snoc, accM_snoc]
        (refine keepI ?_ ?_ <;> repeat' (first | exact ke_nil | exact kg_nil | refine ke_cons (by (try simp only [go_sem, *]); try rfl) (by simp only [go_sem, *]) ?_ | refine kg_box (by (try simp only [go_sem, *]); try rfl) (by omega) (by simp only [go_sem, *]) ?_ | refine kg_row (by (try simp only [go_sem, *]); try rfl) (by omega) (by simp only [go_sem, *]) ?_))
  · have h0 := lt_false hge
    have hs' : l.map upPr = acc := by rw [← hs, List.take_of_length_le hge]
    rcases or_nil acc with hnil | hne
    · subst hnil
      simp only [accV_nil, accG_nil, accM_nil]
      repeat' (first
    | refine pops_nil ?_
    | refine pops_n rfl ?_
    | (refine pops_w' rfl rfl (v := ?_) ?_ ?_; rotate_left 1; (focus ((try simp only [go_sem, *]); exact nm)); (first | refine gw_tt ?_ | refine gw_ff ?_ | refine gw_tf ?_ | refine gw_ft ?_ | refine gw_tn (fun _ => ?_) (fun _ => ?_) | refine gw_fn (fun _ => ?_) (fun _ => ?_) | refine gw_tb (fun _ => ?_) (fun _ => ?_) | refine gw_fb (fun _ => ?_) (fun _ => ?_) | refine gw_u ?_))
    | (refine run_ev rfl rfl (x := ?_) ?_ ?_; rotate_left 1; (focus ((try simp only [go_sem, *]); exact nm)); (first | refine on_nop ?_ | (refine on_new (n := ?_) ?_ ?_; rotate_left 1; (focus ((try simp only [go_sem, *]); exact nm))) | (refine on_put (y := ?_) ?_ ?_; rotate_left 1; (focus ((try simp only [go_sem, *]); exact nm)); refine put_box (l' := ?_) ?_ ?_; rotate_left 1; (focus ((try simp only [go_sem, *]); exact nm))) | (refine on_born (n := ?_) ?_ ?_; rotate_left 1; (focus ((try simp only [go_sem, *]); exact nm))) | refine on_grow ?_))
    | (refine run_call rfl (y := ?_) ?_ ?_; rotate_left 1; (focus ((try simp only [go_sem, *]); exact nm)); refine call_pure (r := ?_) ?_ ?_ ?_; rotate_left 1; (focus (first | assumption | kernel_rfl)); (focus fail))
    | refine dr_nil ?_
    | refine dr_n rfl ?_
    | (refine dr_w' rfl rfl (v := ?_) ?_ ?_; rotate_left 1; (focus ((try simp only [go_sem, *]); exact nm)); (first | refine gw_tt ?_ | refine gw_ff ?_ | refine gw_tf ?_ | refine gw_ft ?_ | refine gw_tn (fun _ => ?_) (fun _ => ?_) | refine gw_fn (fun _ => ?_) (fun _ => ?_) | refine gw_tb (fun _ => ?_) (fun _ => ?_) | refine gw_fb (fun _ => ?_) (fun _ => ?_) | refine gw_u ?_))
    | (refine dr_ev rfl (x := ?_) (rd := ?_) ?_ ?_ ?_; rotate_left 2; (focus ((try simp only [go_sem, *]); exact nm)); (focus ((try simp only [go_sem, *]); exact nm)); (first | refine dn_nop ?_ | (refine dn_new (n := ?_) ?_ ?_; rotate_left 1; (focus ((try simp only [go_sem, *]); exact nm))) | (refine dn_put (y := ?_) ?_ ?_; rotate_left 1; (focus ((try simp only [go_sem, *]); exact nm)); refine dput_box (l' := ?_) ?_ ?_; rotate_left 1; (focus ((try simp only [go_sem, *]); exact nm))) | (refine dn_born (n := ?_) ?_ ?_; rotate_left 1; (focus ((try simp only [go_sem, *]); exact nm))) | refine dn_grow ?_))
    | (refine dr_call rfl (y := ?_) ?_ ?_; rotate_left 1; (focus ((try simp only [go_sem, *]); exact nm)); refine dcall_pure (r := ?_) ?_ ?_ ?_; rotate_left 1; (focus (first | assumption | kernel_rfl)); (focus fail))
    | (refine And.intro (by kernel_rfl : okAll _ = true) ?_)
    | refine pc_seq ?_
    | refine pc_region ?_
    | (refine pc_draw (by kernel_rfl) ?_)
    | refine pc_ret ?_
    | refine pc_skip ?_
    | refine pc_block ?_
    | refine pc_exit ?_
    | (refine pc_cond (v := ?_) ?_ ?_; rotate_left 1; (focus ((try simp only [go_sem, *]); exact nm)); (first | refine cd_t ?_ | refine cd_f ?_ | refine cd_n (fun _ => ?_) (fun _ => ?_) | refine cd_b (fun _ => ?_) (fun _ => ?_)))
    | refine th_normal ?_
    | refine th_ret ?_
    | refine th_exit ?_
    | refine th_pan ?_
    | refine bl_normal ?_
    | refine bl_exit ?_
    | refine bl_pass rfl ?_
    | refine bl_ret ?_
    | refine bl_pan ?_
    | (refine rt_ret (y := ?_) ?_ ?_; rotate_left 1; (focus ((try simp only [go_sem, *]); exact nm)); refine rs_some ?_)
    | (refine rt_normal (y := ?_) ?_ ?_; rotate_left 1; (focus ((try simp only [go_sem, *]); exact nm)); refine rs_some ?_))
      rw [hs']; rfl
    · simp only [accV_ne hne, accG_ne hne, accM_ne hne]
      repeat' (first
    | refine pops_nil ?_
    | refine pops_n rfl ?_
    | (refine pops_w' rfl rfl (v := ?_) ?_ ?_; rotate_left 1; (focus ((try simp only [go_sem, *]); exact nm)); (first | refine gw_tt ?_ | refine gw_ff ?_ | refine gw_tf ?_ | refine gw_ft ?_ | refine gw_tn (fun _ => ?_) (fun _ => ?_) | refine gw_fn (fun _ => ?_) (fun _ => ?_) | refine gw_tb (fun _ => ?_) (fun _ => ?_) | refine gw_fb (fun _ => ?_) (fun _ => ?_) | refine gw_u ?_))
    | (refine run_ev rfl rfl (x := ?_) ?_ ?_; rotate_left 1; (focus ((try simp only [go_sem, *]); exact nm)); (first | refine on_nop ?_ | (refine on_new (n := ?_) ?_ ?_; rotate_left 1; (focus ((try simp only [go_sem, *]); exact nm))) | (refine on_put (y := ?_) ?_ ?_; rotate_left 1; (focus ((try simp only [go_sem, *]); exact nm)); refine put_box (l' := ?_) ?_ ?_; rotate_left 1; (focus ((try simp only [go_sem, *]); exact nm))) | (refine on_born (n := ?_) ?_ ?_; rotate_left 1; (focus ((try simp only [go_sem, *]); exact nm))) | refine on_grow ?_))
    | (refine run_call rfl (y := ?_) ?_ ?_; rotate_left 1; (focus ((try simp only [go_sem, *]); exact nm)); refine call_pure (r := ?_) ?_ ?_ ?_; rotate_left 1; (focus (first | assumption | kernel_rfl)); (focus fail))
    | refine dr_nil ?_
    | refine dr_n rfl ?_
    | (refine dr_w' rfl rfl (v := ?_) ?_ ?_; rotate_left 1; (focus ((try simp only [go_sem, *]); exact nm)); (first | refine gw_tt ?_ | refine gw_ff ?_ | refine gw_tf ?_ | refine gw_ft ?_ | refine gw_tn (fun _ => ?_) (fun _ => ?_) | refine gw_fn (fun _ => ?_) (fun _ => ?_) | refine gw_tb (fun _ => ?_) (fun _ => ?_) | refine gw_fb (fun _ => ?_) (fun _ => ?_) | refine gw_u ?_))
    | (refine dr_ev rfl (x := ?_) (rd := ?_) ?_ ?_ ?_; rotate_left 2; (focus ((try simp only [go_sem, *]); exact nm)); (focus ((try simp only [go_sem, *]); exact nm)); (first | refine dn_nop ?_ | (refine dn_new (n := ?_) ?_ ?_; rotate_left 1; (focus ((try simp only [go_sem, *]); exact nm))) | (refine dn_put (y := ?_) ?_ ?_; rotate_left 1; (focus ((try simp only [go_sem, *]); exact nm)); refine dput_box (l' := ?_) ?_ ?_; rotate_left 1; (focus ((try simp only [go_sem, *]); exact nm))) | (refine dn_born (n := ?_) ?_ ?_; rotate_left 1; (focus ((try simp only [go_sem, *]); exact nm))) | refine dn_grow ?_))
    | (refine dr_call rfl (y := ?_) ?_ ?_; rotate_left 1; (focus ((try simp only [go_sem, *]); exact nm)); refine dcall_pure (r := ?_) ?_ ?_ ?_; rotate_left 1; (focus (first | assumption | kernel_rfl)); (focus fail))
    | (refine And.intro (by kernel_rfl : okAll _ = true) ?_)
    | refine pc_seq ?_
    | refine pc_region ?_
    | (refine pc_draw (by kernel_rfl) ?_)
    | refine pc_ret ?_
    | refine pc_skip ?_
    | refine pc_block ?_
    | refine pc_exit ?_
    | (refine pc_cond (v := ?_) ?_ ?_; rotate_left 1; (focus ((try simp only [go_sem, *]); exact nm)); (first | refine cd_t ?_ | refine cd_f ?_ | refine cd_n (fun _ => ?_) (fun _ => ?_) | refine cd_b (fun _ => ?_) (fun _ => ?_)))
    | refine th_normal ?_
    | refine th_ret ?_
    | refine th_exit ?_
    | refine th_pan ?_
    | refine bl_normal ?_
    | refine bl_exit ?_
    | refine bl_pass rfl ?_
    | refine bl_ret ?_
    | refine bl_pan ?_
    | (refine rt_ret (y := ?_) ?_ ?_; rotate_left 1; (focus ((try simp only [go_sem, *]); exact nm)); refine rs_some ?_)
    | (refine rt_normal (y := ?_) ?_ ?_; rotate_left 1; (focus ((try simp only [go_sem, *]); exact nm)); refine rs_some ?_))
      rw [hs']
def shownR (o : Ob) : List Pr := if (o.kind == 4) = true then o.label.map upPr else o.label
theorem r13_shown (o : Ob) (hl : o.label.length ≤ 900000) : Pure Try.prog 51 [.agg (Ob.enc o)] (.sl ((shownR o).map Pr.enc)) := by
  refine pureI (by kernel_rfl) (by simp only [go_sem, *]) (by simp only [go_sem, *]) Try.func51 Try.results51 rfl (by simp [Try.ntmps51]) (by kernel_rfl) ?_
  repeat' (first
    | refine pops_nil ?_
    | refine pops_n rfl ?_
    | (refine pops_w' rfl rfl (v := ?_) ?_ ?_; rotate_left 1; (focus ((try simp only [go_sem, *]); exact nm)); (first | refine gw_tt ?_ | refine gw_ff ?_ | refine gw_tf ?_ | refine gw_ft ?_ | refine gw_tn (fun _ => ?_) (fun _ => ?_) | refine gw_fn (fun _ => ?_) (fun _ => ?_) | refine gw_tb (fun _ => ?_) (fun _ => ?_) | refine gw_fb (fun _ => ?_) (fun _ => ?_) | refine gw_u ?_))
    | (refine run_ev rfl rfl (x := ?_) ?_ ?_; rotate_left 1; (focus ((try simp only [go_sem, *]); exact nm)); (first | refine on_nop ?_ | (refine on_new (n := ?_) ?_ ?_; rotate_left 1; (focus ((try simp only [go_sem, *]); exact nm))) | (refine on_put (y := ?_) ?_ ?_; rotate_left 1; (focus ((try simp only [go_sem, *]); exact nm)); refine put_box (l' := ?_) ?_ ?_; rotate_left 1; (focus ((try simp only [go_sem, *]); exact nm))) | (refine on_born (n := ?_) ?_ ?_; rotate_left 1; (focus ((try simp only [go_sem, *]); exact nm))) | refine on_grow ?_))
    | (refine run_call rfl (y := ?_) ?_ ?_; rotate_left 1; (focus ((try simp only [go_sem, *]); exact nm)); refine call_pure (r := ?_) ?_ ?_ ?_; rotate_left 1; (focus (first | assumption | kernel_rfl)); (focus first | exact r2_raise _ hl))
    | refine dr_nil ?_
    | refine dr_n rfl ?_
    | (refine dr_w' rfl rfl (v := ?_) ?_ ?_; rotate_left 1; (focus ((try simp only [go_sem, *]); exact nm)); (first | refine gw_tt ?_ | refine gw_ff ?_ | refine gw_tf ?_ | refine gw_ft ?_ | refine gw_tn (fun _ => ?_) (fun _ => ?_) | refine gw_fn (fun _ => ?_) (fun _ => ?_) | refine gw_tb (fun _ => ?_) (fun _ => ?_) | refine gw_fb (fun _ => ?_) (fun _ => ?_) | refine gw_u ?_))
    | (refine dr_ev rfl (x := ?_) (rd := ?_) ?_ ?_ ?_; rotate_left 2; (focus ((try simp only [go_sem, *]); exact nm)); (focus ((try simp only [go_sem, *]); exact nm)); (first | refine dn_nop ?_ | (refine dn_new (n := ?_) ?_ ?_; rotate_left 1; (focus ((try simp only [go_sem, *]); exact nm))) | (refine dn_put (y := ?_) ?_ ?_; rotate_left 1; (focus ((try simp only [go_sem, *]); exact nm)); refine dput_box (l' := ?_) ?_ ?_; rotate_left 1; (focus ((try simp only [go_sem, *]); exact nm))) | (refine dn_born (n := ?_) ?_ ?_; rotate_left 1; (focus ((try simp only [go_sem, *]); exact nm))) | refine dn_grow ?_))
    | (refine dr_call rfl (y := ?_) ?_ ?_; rotate_left 1; (focus ((try simp only [go_sem, *]); exact nm)); refine dcall_pure (r := ?_) ?_ ?_ ?_; rotate_left 1; (focus (first | assumption | kernel_rfl)); (focus first | exact r2_raise _ hl))
    | (refine And.intro (by kernel_rfl : okAll _ = true) ?_)
    | refine pc_seq ?_
    | refine pc_region ?_
    | (refine pc_draw (by kernel_rfl) ?_)
    | refine pc_ret ?_
    | refine pc_skip ?_
    | refine pc_block ?_
    | refine pc_exit ?_
    | (refine pc_cond (v := ?_) ?_ ?_; rotate_left 1; (focus ((try simp only [go_sem, *]); exact nm)); (first | refine cd_t ?_ | refine cd_f ?_ | refine cd_n (fun _ => ?_) (fun _ => ?_) | refine cd_b (fun _ => ?_) (fun _ => ?_)))
    | refine th_normal ?_
    | refine th_ret ?_
    | refine th_exit ?_
    | refine th_pan ?_
    | refine bl_normal ?_
    | refine bl_exit ?_
    | refine bl_pass rfl ?_
    | refine bl_ret ?_
    | refine bl_pan ?_
    | (refine rt_ret (y := ?_) ?_ ?_; rotate_left 1; (focus ((try simp only [go_sem, *]); exact nm)); refine rs_some ?_)
    | (refine rt_normal (y := ?_) ?_ ?_; rotate_left 1; (focus ((try simp only [go_sem, *]); exact nm)); refine rs_some ?_))
  all_goals (unfold shownR; simp only [*, if_true, if_false, Bool.false_eq_true]; try rfl)
end Go.Proofs.Ytklpedooijlnlaa
