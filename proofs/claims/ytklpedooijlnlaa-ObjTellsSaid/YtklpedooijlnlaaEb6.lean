import Derived.Test.YtklpedooijlnlaaEb4
import Derived.Test.YtklpedooijlnlaaEb5
namespace Go.Proofs.Ytklpedooijlnlaa
open Go Go.RowKit
set_option linter.unusedVariables false
set_option linter.unusedSimpArgs false
set_option maxHeartbeats 16000000
set_option maxRecDepth 100000
attribute [local irreducible] pwOps dr pwCode Ex.then Ex.inBlock retQ okAll drawOk Pure CSat evOp calleeP rdOf upd hset strip sp0 cut envL heapL Again Keep BdL
/-! What the laws of objects let in. -/
def briefOb (o : Ob) : Bool := decide ((o.label.length : Int) ≤ 20) && (decide ((o.links.length : Int) ≤ 80) && (decide ((o.data.length : Int) ≤ 200) && (decide ((o.maps.length : Int) ≤ 20) && (decide ((o.inn.length : Int) ≤ 80) && (decide ((o.out.length : Int) ≤ 80) && decide ((o.thread.alerts.length : Int) ≤ 20))))))
theorem law13_brief (o : Ob) : Pure Try.prog 27 [.agg (Ob.enc o)] (.bool (briefOb o)) := by
  refine pureI (by kernel_rfl) (by simp only [go_sem, *]) (by simp only [go_sem, *]) Try.func27 Try.results27 rfl (by simp [Try.ntmps27]) (by kernel_rfl) ?_
  repeat' (first
    | refine pops_nil ?_
    | refine pops_n rfl ?_
    | (refine pops_w' rfl rfl (v := ?_) ?_ ?_; rotate_left 1; (focus ((try simp only [go_sem, *]); exact nm)); (first | refine gw_tt ?_ | refine gw_ff ?_ | refine gw_tf ?_ | refine gw_ft ?_ | refine gw_tn (fun _ => ?_) (fun _ => ?_) | refine gw_fn (fun _ => ?_) (fun _ => ?_) | refine gw_tb (fun _ => ?_) (fun _ => ?_) | refine gw_fb (fun _ => ?_) (fun _ => ?_) | refine gw_u ?_))
    | (refine run_ev rfl rfl (x := ?_) ?_ ?_; rotate_left 1; (focus ((try simp only [go_sem, *]); exact nm)); (first | refine on_nop ?_ | (refine on_new (n := ?_) ?_ ?_; rotate_left 1; (focus ((try simp only [go_sem, *]); exact nm))) | (refine on_put (y := ?_) ?_ ?_; rotate_left 1; (focus ((try simp only [go_sem, *]); exact nm)); refine put_box (l' := ?_) ?_ ?_; rotate_left 1; (focus ((try simp only [go_sem, *]); exact nm))) | (refine on_born (n := ?_) ?_ ?_; rotate_left 1; (focus ((try simp only [go_sem, *]); exact nm))) | refine on_grow ?_))
    | (refine run_call rfl (y := ?_) ?_ ?_; rotate_left 1; (focus ((try simp only [go_sem, *]); exact nm)); refine call_pure (r := ?_) ?_ ?_ ?_; rotate_left 1; (focus (first | assumption | kernel_rfl)); (focus fail))
    | refine dr_nil ?_
    | refine dr_n rfl ?_
    | (refine dr_w' rfl rfl (v := ?_) ?_ ?_; rotate_left 1; (focus ((try simp only [go_sem, *]); exact nm)); (first | refine gw_tt ?_ | refine gw_ff ?_ | refine gw_tf ?_ | refine gw_ft ?_ | refine gw_tn (fun _ => ?_) (fun _ => ?_) | refine gw_fn (fun _ => ?_) (fun _ => ?_) | refine gw_tb (fun _ => ?_) (fun _ => ?_) | refine gw_fb (fun _ => ?_) (fun _ => ?_) | refine gw_u ?_))
    | (refine dr_ev rfl (x := ?_) (rd := ?_) ?_ ?_ ?_; rotate_left 2; (focus ((try simp only [go_sem, *]); exact nm)); (focus ((try simp only [go_sem, *]); exact nm)); (first | refine dn_nop ?_ | (refine dn_new (n := ?_) ?_ ?_; rotate_left 1; (focus ((try simp only [go_sem, *]); exact nm))) | (refine dn_put (y := ?_) ?_ ?_; rotate_left 1; (focus ((try simp only [go_sem, *]); exact nm)); refine dput_box (l' := ?_) ?_ ?_; rotate_left 1; (focus ((try simp only [go_sem, *]); exact nm))) | (refine dn_born (n := ?_) ?_ ?_; rotate_left 1; (focus ((try simp only [go_sem, *]); exact nm))) | refine dn_grow ?_))
    | (refine dr_call rfl (y := ?_) ?_ ?_; rotate_left 1; (focus ((try simp only [go_sem, *]); exact nm)); refine dcall_pure (r := ?_) ?_ ?_ ?_; rotate_left 1; (focus (first | assumption | kernel_rfl)); (focus fail))
    | (refine And.intro (by kernel_rfl : okAll _ = true) ?_)
    | refine pc_seq ?_
    | refine pc_region ?_
    | (refine pc_draw (by kernel_rfl) ?_)
    | refine pc_ret ?_
    | refine pc_skip ?_
    | refine pc_block ?_
    | refine pc_exit ?_
    | (refine pc_cond (v := ?_) ?_ ?_; rotate_left 1; (focus ((try simp only [go_sem, *]); exact nm)); (first | refine cd_t ?_ | refine cd_f ?_ | refine cd_n (fun _ => ?_) (fun _ => ?_) | refine cd_b (fun _ => ?_) (fun _ => ?_)))
    | refine th_normal ?_
    | refine th_ret ?_
    | refine th_exit ?_
    | refine th_pan ?_
    | refine bl_normal ?_
    | refine bl_exit ?_
    | refine bl_pass rfl ?_
    | refine bl_ret ?_
    | refine bl_pan ?_
    | (refine rt_ret (y := ?_) ?_ ?_; rotate_left 1; (focus ((try simp only [go_sem, *]); exact nm)); refine rs_some ?_)
    | (refine rt_normal (y := ?_) ?_ ?_; rotate_left 1; (focus ((try simp only [go_sem, *]); exact nm)); refine rs_some ?_))
  all_goals (refine ret_of ?_; unfold briefOb; simp only [*, Bool.not_true, Bool.not_false, Bool.and_true, Bool.true_and, Bool.and_false, Bool.false_and, Bool.or_true, Bool.true_or, Bool.or_false, Bool.false_or, Bool.and_self, Bool.or_self, decide_true, decide_false, Bool.not_not, if_true, if_false, Bool.false_eq_true, eq_self])
end Go.Proofs.Ytklpedooijlnlaa
