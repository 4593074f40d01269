import Derived.Test.YtklpedooijlnlaaEb3
namespace Go.Proofs.Ytklpedooijlnlaa
open Go Go.RowKit
set_option linter.unusedVariables false
set_option linter.unusedSimpArgs false
set_option maxHeartbeats 16000000
set_option maxRecDepth 100000
attribute [local irreducible] pwOps dr pwCode Ex.then Ex.inBlock retQ okAll drawOk Pure CSat evOp calleeP rdOf upd hset strip sp0 cut envL heapL Again Keep BdL
/-! Heads, shown labels, pages. -/
def seenOf (o : Ob) : Ob := ⟨o.id, o.kind, if (o.kind == 4) = true then [] else o.label, o.quota, o.fixed, [], [], [], Th.zero, Gt.zero, [], []⟩
theorem obj_head (o : Ob) : Pure Try.prog 30 [.agg (Ob.enc o)] (.agg (Ob.enc (seenOf o))) := by
  refine pureI (by kernel_rfl) (by simp only [go_sem, *]) (by simp only [go_sem, *]) Try.func30 Try.results30 rfl (by simp [Try.ntmps30]) (by kernel_rfl) ?_
  repeat' (first
    | refine pops_nil ?_
    | refine pops_n rfl ?_
    | (refine pops_w' rfl rfl (v := ?_) ?_ ?_; rotate_left 1; (focus ((try simp only [go_sem, *]); exact nm)); (first | refine gw_tt ?_ | refine gw_ff ?_ | refine gw_tf ?_ | refine gw_ft ?_ | refine gw_tn (fun _ => ?_) (fun _ => ?_) | refine gw_fn (fun _ => ?_) (fun _ => ?_) | refine gw_tb (fun _ => ?_) (fun _ => ?_) | refine gw_fb (fun _ => ?_) (fun _ => ?_) | refine gw_u ?_))
    | (refine run_ev rfl rfl (x := ?_) ?_ ?_; rotate_left 1; (focus ((try simp only [go_sem, *]); exact nm)); (first | refine on_nop ?_ | (refine on_new (n := ?_) ?_ ?_; rotate_left 1; (focus ((try simp only [go_sem, *]); exact nm))) | (refine on_put (y := ?_) ?_ ?_; rotate_left 1; (focus ((try simp only [go_sem, *]); exact nm)); refine put_box (l' := ?_) ?_ ?_; rotate_left 1; (focus ((try simp only [go_sem, *]); exact nm))) | (refine on_born (n := ?_) ?_ ?_; rotate_left 1; (focus ((try simp only [go_sem, *]); exact nm))) | refine on_grow ?_))
    | (refine run_call rfl (y := ?_) ?_ ?_; rotate_left 1; (focus ((try simp only [go_sem, *]); exact nm)); refine call_pure (r := ?_) ?_ ?_ ?_; rotate_left 1; (focus (first | assumption | kernel_rfl)); (focus fail))
    | refine dr_nil ?_
    | refine dr_n rfl ?_
    | (refine dr_w' rfl rfl (v := ?_) ?_ ?_; rotate_left 1; (focus ((try simp only [go_sem, *]); exact nm)); (first | refine gw_tt ?_ | refine gw_ff ?_ | refine gw_tf ?_ | refine gw_ft ?_ | refine gw_tn (fun _ => ?_) (fun _ => ?_) | refine gw_fn (fun _ => ?_) (fun _ => ?_) | refine gw_tb (fun _ => ?_) (fun _ => ?_) | refine gw_fb (fun _ => ?_) (fun _ => ?_) | refine gw_u ?_))
    | (refine dr_ev rfl (x := ?_) (rd := ?_) ?_ ?_ ?_; rotate_left 2; (focus ((try simp only [go_sem, *]); exact nm)); (focus ((try simp only [go_sem, *]); exact nm)); (first | refine dn_nop ?_ | (refine dn_new (n := ?_) ?_ ?_; rotate_left 1; (focus ((try simp only [go_sem, *]); exact nm))) | (refine dn_put (y := ?_) ?_ ?_; rotate_left 1; (focus ((try simp only [go_sem, *]); exact nm)); refine dput_box (l' := ?_) ?_ ?_; rotate_left 1; (focus ((try simp only [go_sem, *]); exact nm))) | (refine dn_born (n := ?_) ?_ ?_; rotate_left 1; (focus ((try simp only [go_sem, *]); exact nm))) | refine dn_grow ?_))
    | (refine dr_call rfl (y := ?_) ?_ ?_; rotate_left 1; (focus ((try simp only [go_sem, *]); exact nm)); refine dcall_pure (r := ?_) ?_ ?_ ?_; rotate_left 1; (focus (first | assumption | kernel_rfl)); (focus fail))
    | (refine And.intro (by kernel_rfl : okAll _ = true) ?_)
    | refine pc_seq ?_
    | refine pc_region ?_
    | (refine pc_draw (by kernel_rfl) ?_)
    | refine pc_ret ?_
    | refine pc_skip ?_
    | refine pc_block ?_
    | refine pc_exit ?_
    | (refine pc_cond (v := ?_) ?_ ?_; rotate_left 1; (focus ((try simp only [go_sem, *]); exact nm)); (first | refine cd_t ?_ | refine cd_f ?_ | refine cd_n (fun _ => ?_) (fun _ => ?_) | refine cd_b (fun _ => ?_) (fun _ => ?_)))
    | refine th_normal ?_
    | refine th_ret ?_
    | refine th_exit ?_
    | refine th_pan ?_
    | refine bl_normal ?_
    | refine bl_exit ?_
    | refine bl_pass rfl ?_
    | refine bl_ret ?_
    | refine bl_pan ?_
    | (refine rt_ret (y := ?_) ?_ ?_; rotate_left 1; (focus ((try simp only [go_sem, *]); exact nm)); refine rs_some ?_)
    | (refine rt_normal (y := ?_) ?_ ?_; rotate_left 1; (focus ((try simp only [go_sem, *]); exact nm)); refine rs_some ?_))
  all_goals (unfold seenOf; simp only [*, if_true, if_false, Bool.false_eq_true]; try rfl)
theorem r13_head (o : Ob) : Pure Try.prog 52 [.agg (Ob.enc o)] (.agg (Ob.enc (seenOf o))) := by
  refine pureI (by kernel_rfl) (by simp only [go_sem, *]) (by simp only [go_sem, *]) Try.func52 Try.results52 rfl (by simp [Try.ntmps52]) (by kernel_rfl) ?_
  repeat' (first
    | refine pops_nil ?_
    | refine pops_n rfl ?_
    | (refine pops_w' rfl rfl (v := ?_) ?_ ?_; rotate_left 1; (focus ((try simp only [go_sem, *]); exact nm)); (first | refine gw_tt ?_ | refine gw_ff ?_ | refine gw_tf ?_ | refine gw_ft ?_ | refine gw_tn (fun _ => ?_) (fun _ => ?_) | refine gw_fn (fun _ => ?_) (fun _ => ?_) | refine gw_tb (fun _ => ?_) (fun _ => ?_) | refine gw_fb (fun _ => ?_) (fun _ => ?_) | refine gw_u ?_))
    | (refine run_ev rfl rfl (x := ?_) ?_ ?_; rotate_left 1; (focus ((try simp only [go_sem, *]); exact nm)); (first | refine on_nop ?_ | (refine on_new (n := ?_) ?_ ?_; rotate_left 1; (focus ((try simp only [go_sem, *]); exact nm))) | (refine on_put (y := ?_) ?_ ?_; rotate_left 1; (focus ((try simp only [go_sem, *]); exact nm)); refine put_box (l' := ?_) ?_ ?_; rotate_left 1; (focus ((try simp only [go_sem, *]); exact nm))) | (refine on_born (n := ?_) ?_ ?_; rotate_left 1; (focus ((try simp only [go_sem, *]); exact nm))) | refine on_grow ?_))
    | (refine run_call rfl (y := ?_) ?_ ?_; rotate_left 1; (focus ((try simp only [go_sem, *]); exact nm)); refine call_pure (r := ?_) ?_ ?_ ?_; rotate_left 1; (focus (first | assumption | kernel_rfl)); (focus fail))
    | refine dr_nil ?_
    | refine dr_n rfl ?_
    | (refine dr_w' rfl rfl (v := ?_) ?_ ?_; rotate_left 1; (focus ((try simp only [go_sem, *]); exact nm)); (first | refine gw_tt ?_ | refine gw_ff ?_ | refine gw_tf ?_ | refine gw_ft ?_ | refine gw_tn (fun _ => ?_) (fun _ => ?_) | refine gw_fn (fun _ => ?_) (fun _ => ?_) | refine gw_tb (fun _ => ?_) (fun _ => ?_) | refine gw_fb (fun _ => ?_) (fun _ => ?_) | refine gw_u ?_))
    | (refine dr_ev rfl (x := ?_) (rd := ?_) ?_ ?_ ?_; rotate_left 2; (focus ((try simp only [go_sem, *]); exact nm)); (focus ((try simp only [go_sem, *]); exact nm)); (first | refine dn_nop ?_ | (refine dn_new (n := ?_) ?_ ?_; rotate_left 1; (focus ((try simp only [go_sem, *]); exact nm))) | (refine dn_put (y := ?_) ?_ ?_; rotate_left 1; (focus ((try simp only [go_sem, *]); exact nm)); refine dput_box (l' := ?_) ?_ ?_; rotate_left 1; (focus ((try simp only [go_sem, *]); exact nm))) | (refine dn_born (n := ?_) ?_ ?_; rotate_left 1; (focus ((try simp only [go_sem, *]); exact nm))) | refine dn_grow ?_))
    | (refine dr_call rfl (y := ?_) ?_ ?_; rotate_left 1; (focus ((try simp only [go_sem, *]); exact nm)); refine dcall_pure (r := ?_) ?_ ?_ ?_; rotate_left 1; (focus (first | assumption | kernel_rfl)); (focus fail))
    | (refine And.intro (by kernel_rfl : okAll _ = true) ?_)
    | refine pc_seq ?_
    | refine pc_region ?_
    | (refine pc_draw (by kernel_rfl) ?_)
    | refine pc_ret ?_
    | refine pc_skip ?_
    | refine pc_block ?_
    | refine pc_exit ?_
    | (refine pc_cond (v := ?_) ?_ ?_; rotate_left 1; (focus ((try simp only [go_sem, *]); exact nm)); (first | refine cd_t ?_ | refine cd_f ?_ | refine cd_n (fun _ => ?_) (fun _ => ?_) | refine cd_b (fun _ => ?_) (fun _ => ?_)))
    | refine th_normal ?_
    | refine th_ret ?_
    | refine th_exit ?_
    | refine th_pan ?_
    | refine bl_normal ?_
    | refine bl_exit ?_
    | refine bl_pass rfl ?_
    | refine bl_ret ?_
    | refine bl_pan ?_
    | (refine rt_ret (y := ?_) ?_ ?_; rotate_left 1; (focus ((try simp only [go_sem, *]); exact nm)); refine rs_some ?_)
    | (refine rt_normal (y := ?_) ?_ ?_; rotate_left 1; (focus ((try simp only [go_sem, *]); exact nm)); refine rs_some ?_))
  all_goals (unfold seenOf; simp only [*, if_true, if_false, Bool.false_eq_true]; try rfl)
def shownOf (o : Ob) : List Pr := if (o.kind == 4) = true then labRaise o.label else o.label
theorem obj_shown (o : Ob) (hl : o.label.length ≤ 900000) : Pure Try.prog 31 [.agg (Ob.enc o)] (.sl ((shownOf o).map Pr.enc)) := by
  refine pureI (by kernel_rfl) (by simp only [go_sem, *]) (by simp only [go_sem, *]) Try.func31 Try.results31 rfl (by simp [Try.ntmps31]) (by kernel_rfl) ?_
  have h := label_raise o.label (by omega)
  repeat' (first
    | refine pops_nil ?_
    | refine pops_n rfl ?_
    | (refine pops_w' rfl rfl (v := ?_) ?_ ?_; rotate_left 1; (focus ((try simp only [go_sem, *]); exact nm)); (first | refine gw_tt ?_ | refine gw_ff ?_ | refine gw_tf ?_ | refine gw_ft ?_ | refine gw_tn (fun _ => ?_) (fun _ => ?_) | refine gw_fn (fun _ => ?_) (fun _ => ?_) | refine gw_tb (fun _ => ?_) (fun _ => ?_) | refine gw_fb (fun _ => ?_) (fun _ => ?_) | refine gw_u ?_))
    | (refine run_ev rfl rfl (x := ?_) ?_ ?_; rotate_left 1; (focus ((try simp only [go_sem, *]); exact nm)); (first | refine on_nop ?_ | (refine on_new (n := ?_) ?_ ?_; rotate_left 1; (focus ((try simp only [go_sem, *]); exact nm))) | (refine on_put (y := ?_) ?_ ?_; rotate_left 1; (focus ((try simp only [go_sem, *]); exact nm)); refine put_box (l' := ?_) ?_ ?_; rotate_left 1; (focus ((try simp only [go_sem, *]); exact nm))) | (refine on_born (n := ?_) ?_ ?_; rotate_left 1; (focus ((try simp only [go_sem, *]); exact nm))) | refine on_grow ?_))
    | (refine run_call rfl (y := ?_) ?_ ?_; rotate_left 1; (focus ((try simp only [go_sem, *]); exact nm)); refine call_pure (r := ?_) ?_ ?_ ?_; rotate_left 1; (focus (first | assumption | kernel_rfl)); (focus first | exact h))
    | refine dr_nil ?_
    | refine dr_n rfl ?_
    | (refine dr_w' rfl rfl (v := ?_) ?_ ?_; rotate_left 1; (focus ((try simp only [go_sem, *]); exact nm)); (first | refine gw_tt ?_ | refine gw_ff ?_ | refine gw_tf ?_ | refine gw_ft ?_ | refine gw_tn (fun _ => ?_) (fun _ => ?_) | refine gw_fn (fun _ => ?_) (fun _ => ?_) | refine gw_tb (fun _ => ?_) (fun _ => ?_) | refine gw_fb (fun _ => ?_) (fun _ => ?_) | refine gw_u ?_))
    | (refine dr_ev rfl (x := ?_) (rd := ?_) ?_ ?_ ?_; rotate_left 2; (focus ((try simp only [go_sem, *]); exact nm)); (focus ((try simp only [go_sem, *]); exact nm)); (first | refine dn_nop ?_ | (refine dn_new (n := ?_) ?_ ?_; rotate_left 1; (focus ((try simp only [go_sem, *]); exact nm))) | (refine dn_put (y := ?_) ?_ ?_; rotate_left 1; (focus ((try simp only [go_sem, *]); exact nm)); refine dput_box (l' := ?_) ?_ ?_; rotate_left 1; (focus ((try simp only [go_sem, *]); exact nm))) | (refine dn_born (n := ?_) ?_ ?_; rotate_left 1; (focus ((try simp only [go_sem, *]); exact nm))) | refine dn_grow ?_))
    | (refine dr_call rfl (y := ?_) ?_ ?_; rotate_left 1; (focus ((try simp only [go_sem, *]); exact nm)); refine dcall_pure (r := ?_) ?_ ?_ ?_; rotate_left 1; (focus (first | assumption | kernel_rfl)); (focus first | exact h))
    | (refine And.intro (by kernel_rfl : okAll _ = true) ?_)
    | refine pc_seq ?_
    | refine pc_region ?_
    | (refine pc_draw (by kernel_rfl) ?_)
    | refine pc_ret ?_
    | refine pc_skip ?_
    | refine pc_block ?_
    | refine pc_exit ?_
    | (refine pc_cond (v := ?_) ?_ ?_; rotate_left 1; (focus ((try simp only [go_sem, *]); exact nm)); (first | refine cd_t ?_ | refine cd_f ?_ | refine cd_n (fun _ => ?_) (fun _ => ?_) | refine cd_b (fun _ => ?_) (fun _ => ?_)))
    | refine th_normal ?_
    | refine th_ret ?_
    | refine th_exit ?_
    | refine th_pan ?_
    | refine bl_normal ?_
    | refine bl_exit ?_
    | refine bl_pass rfl ?_
    | refine bl_ret ?_
    | refine bl_pan ?_
    | (refine rt_ret (y := ?_) ?_ ?_; rotate_left 1; (focus ((try simp only [go_sem, *]); exact nm)); refine rs_some ?_)
    | (refine rt_normal (y := ?_) ?_ ?_; rotate_left 1; (focus ((try simp only [go_sem, *]); exact nm)); refine rs_some ?_))
  all_goals (unfold shownOf; simp only [*, if_true, if_false, Bool.false_eq_true]; try rfl)
end Go.Proofs.Ytklpedooijlnlaa
