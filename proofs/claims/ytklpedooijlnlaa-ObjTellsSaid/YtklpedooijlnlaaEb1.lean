import Derived.Test.YtklpedooijlnlaaEa9
namespace Go.Proofs.Ytklpedooijlnlaa
open Go Go.RowKit
set_option linter.unusedVariables false
set_option linter.unusedSimpArgs false
set_option maxHeartbeats 16000000
set_option maxRecDepth 100000
/-! obj: which objects can be. -/
@[go_sem] theorem arrL_bd (S : Nat → Prop) (f : Nat → List Pr) : BdL S (arr 4 (fun i => [.sl (List.map Pr.enc (f i))])) = True := by
  refine eq_true fun p hp => ?_
  simp only [arr, List.mem_flatMap, List.mem_cons, List.not_mem_nil, or_false] at hp
  obtain ⟨i, _, rfl⟩ := hp
  rw [Pr.bdS]; trivial
@[go_sem] theorem cut_arrL_0 (f : Nat → List Pr) : cut Try.prog 24 (arr 4 (fun i => [.sl (List.map Pr.enc (f i))])) 0 = some (.sl (List.map Pr.enc (f 0))) := by kernel_rfl
@[go_sem] theorem cut_arrL_1 (f : Nat → List Pr) : cut Try.prog 24 (arr 4 (fun i => [.sl (List.map Pr.enc (f i))])) 1 = some (.sl (List.map Pr.enc (f 1))) := by kernel_rfl
@[go_sem] theorem cut_arrL_2 (f : Nat → List Pr) : cut Try.prog 24 (arr 4 (fun i => [.sl (List.map Pr.enc (f i))])) 2 = some (.sl (List.map Pr.enc (f 2))) := by kernel_rfl
@[go_sem] theorem cut_arrL_3 (f : Nat → List Pr) : cut Try.prog 24 (arr 4 (fun i => [.sl (List.map Pr.enc (f i))])) 3 = some (.sl (List.map Pr.enc (f 3))) := by kernel_rfl
attribute [local irreducible] pwOps dr pwCode Ex.then Ex.inBlock retQ okAll drawOk Pure CSat evOp calleeP rdOf upd hset strip sp0 cut envL heapL Again Keep BdL
/-- As obj has it: the label order by label.Leq. -/
def thFitO (o : Ob) : Bool := allB 4 (labsKept o.thread) && ((o.thread.state == 1 || decide (o.thread.wait = Wt.zero)) && ((o.thread.state == 0 || (o.thread.state == 1 || o.thread.state == 2)) && (!o.fixed && (kept o.thread.clear && (labLeq o.label o.thread.clear && (decide ((o.thread.alerts.length : Int) ≤ 8) && spanFit o.thread.span))))))
theorem kept_len {l : List Pr} (h : kept l = true) : l.length ≤ 16 := by
  unfold kept at h; simp only [Bool.and_eq_true, decide_eq_true_eq] at h; exact h.2.1
theorem obj_threadSound (o : Ob) (ha : o.thread.L) (hl : o.label.length ≤ 900000) : Pure Try.prog 133 [.agg (Ob.enc o)] (.bool (thFitO o)) := by
  refine pureI (by kernel_rfl) (by simp only [go_sem, *]) (by simp only [go_sem, *]) Try.func133 Try.results133 rfl (by simp [Try.ntmps133]) (by kernel_rfl) ?_
  obtain ⟨l1, l2, l3⟩ := ha
  repeat' (first
    | refine pops_nil ?_
    | refine pops_n rfl ?_
    | (refine pops_w' rfl rfl (v := ?_) ?_ ?_; rotate_left 1; (focus ((try simp only [go_sem, *]); exact nm)); (first | refine gw_tt ?_ | refine gw_ff ?_ | refine gw_tf ?_ | refine gw_ft ?_ | refine gw_tn (fun _ => ?_) (fun _ => ?_) | refine gw_fn (fun _ => ?_) (fun _ => ?_) | refine gw_tb (fun _ => ?_) (fun _ => ?_) | refine gw_fb (fun _ => ?_) (fun _ => ?_) | refine gw_u ?_))
    | (refine run_ev rfl rfl (x := ?_) ?_ ?_; rotate_left 1; (focus ((try simp only [go_sem, *]); exact nm)); (first | refine on_nop ?_ | (refine on_new (n := ?_) ?_ ?_; rotate_left 1; (focus ((try simp only [go_sem, *]); exact nm))) | (refine on_put (y := ?_) ?_ ?_; rotate_left 1; (focus ((try simp only [go_sem, *]); exact nm)); refine put_box (l' := ?_) ?_ ?_; rotate_left 1; (focus ((try simp only [go_sem, *]); exact nm))) | (refine on_born (n := ?_) ?_ ?_; rotate_left 1; (focus ((try simp only [go_sem, *]); exact nm))) | refine on_grow ?_))
    | (refine run_call rfl (y := ?_) ?_ ?_; rotate_left 1; (focus ((try simp only [go_sem, *]); exact nm)); refine call_pure (r := ?_) ?_ ?_ ?_; rotate_left 1; (focus (first | assumption | kernel_rfl)); (focus fail))
    | refine dr_nil ?_
    | refine dr_n rfl ?_
    | (refine dr_w' rfl rfl (v := ?_) ?_ ?_; rotate_left 1; (focus ((try simp only [go_sem, *]); exact nm)); (first | refine gw_tt ?_ | refine gw_ff ?_ | refine gw_tf ?_ | refine gw_ft ?_ | refine gw_tn (fun _ => ?_) (fun _ => ?_) | refine gw_fn (fun _ => ?_) (fun _ => ?_) | refine gw_tb (fun _ => ?_) (fun _ => ?_) | refine gw_fb (fun _ => ?_) (fun _ => ?_) | refine gw_u ?_))
    | (refine dr_ev rfl (x := ?_) (rd := ?_) ?_ ?_ ?_; rotate_left 2; (focus ((try simp only [go_sem, *]); exact nm)); (focus ((try simp only [go_sem, *]); exact nm)); (first | refine dn_nop ?_ | (refine dn_new (n := ?_) ?_ ?_; rotate_left 1; (focus ((try simp only [go_sem, *]); exact nm))) | (refine dn_put (y := ?_) ?_ ?_; rotate_left 1; (focus ((try simp only [go_sem, *]); exact nm)); refine dput_box (l' := ?_) ?_ ?_; rotate_left 1; (focus ((try simp only [go_sem, *]); exact nm))) | (refine dn_born (n := ?_) ?_ ?_; rotate_left 1; (focus ((try simp only [go_sem, *]); exact nm))) | refine dn_grow ?_))
    | (refine dr_call rfl (y := ?_) ?_ ?_; rotate_left 1; (focus ((try simp only [go_sem, *]); exact nm)); refine dcall_pure (r := ?_) ?_ ?_ ?_; rotate_left 1; (focus (first | assumption | kernel_rfl)); (focus fail))
    | (refine And.intro (by kernel_rfl : okAll _ = true) ?_)
    | refine pc_seq ?_
    | refine pc_region ?_
    | (refine pc_draw (by kernel_rfl) ?_)
    | refine pc_ret ?_
    | refine pc_skip ?_
    | refine pc_block ?_
    | refine pc_exit ?_
    | (refine pc_cond (v := ?_) ?_ ?_; rotate_left 1; (focus ((try simp only [go_sem, *]); exact nm)); (first | refine cd_t ?_ | refine cd_f ?_ | refine cd_n (fun _ => ?_) (fun _ => ?_) | refine cd_b (fun _ => ?_) (fun _ => ?_)))
    | refine th_normal ?_
    | refine th_ret ?_
    | refine th_exit ?_
    | refine th_pan ?_
    | refine bl_normal ?_
    | refine bl_exit ?_
    | refine bl_pass rfl ?_
    | refine bl_ret ?_
    | refine bl_pan ?_
    | (refine rt_ret (y := ?_) ?_ ?_; rotate_left 1; (focus ((try simp only [go_sem, *]); exact nm)); refine rs_some ?_)
    | (refine rt_normal (y := ?_) ?_ ?_; rotate_left 1; (focus ((try simp only [go_sem, *]); exact nm)); refine rs_some ?_))
  refine pc_loop (S := Nat) (fun n => 4 - n) (fun n => n ≤ 4 ∧ ∀ j, j < n → labsKept o.thread j = true) (fun n => [(1, .ptr 0 0), (3, .ptr 1 0), (11, .agg (arr 4 (fun i => [.sl (List.map Pr.enc (o.thread.labs i))]))), (12, .int .i64 n)]) (fun _ => [(0, .box (Ob.enc o)), (1, .box (Th.enc o.thread))]) (fun _ => 2) 0 ⟨Nat.zero_le _, fun j hj => absurd hj (Nat.not_lt_zero j)⟩ (by (refine keepI ?_ ?_ <;> repeat' (first | exact ke_nil | exact kg_nil | refine ke_cons (by (try simp only [go_sem, *]); try rfl) (by simp only [go_sem, *]) ?_ | refine kg_box (by (try simp only [go_sem, *]); try rfl) (by omega) (by simp only [go_sem, *]) ?_ | refine kg_row (by (try simp only [go_sem, *]); try rfl) (by omega) (by simp only [go_sem, *]) ?_))) ?_
  rintro n ⟨hn, hs⟩
  have no : ∀ i, i < 4 → labsKept o.thread i = false → thFitO o = false := fun i hi h => by unfold thFitO; rw [allB_false hi h]; rfl
  rcases (by omega : n = 0 ∨ n = 1 ∨ n = 2 ∨ n = 3 ∨ n = 4) with rfl | rfl | rfl | rfl | rfl
  · have k := l3 0 (by omega)
    simp only [c0]
    repeat' (first
    | refine pops_nil ?_
    | refine pops_n rfl ?_
    | (refine pops_w' rfl rfl (v := ?_) ?_ ?_; rotate_left 1; (focus ((try simp only [go_sem, *]); exact nm)); (first | refine gw_tt ?_ | refine gw_ff ?_ | refine gw_tf ?_ | refine gw_ft ?_ | refine gw_tn (fun _ => ?_) (fun _ => ?_) | refine gw_fn (fun _ => ?_) (fun _ => ?_) | refine gw_tb (fun _ => ?_) (fun _ => ?_) | refine gw_fb (fun _ => ?_) (fun _ => ?_) | refine gw_u ?_))
    | (refine run_ev rfl rfl (x := ?_) ?_ ?_; rotate_left 1; (focus ((try simp only [go_sem, *]); exact nm)); (first | refine on_nop ?_ | (refine on_new (n := ?_) ?_ ?_; rotate_left 1; (focus ((try simp only [go_sem, *]); exact nm))) | (refine on_put (y := ?_) ?_ ?_; rotate_left 1; (focus ((try simp only [go_sem, *]); exact nm)); refine put_box (l' := ?_) ?_ ?_; rotate_left 1; (focus ((try simp only [go_sem, *]); exact nm))) | (refine on_born (n := ?_) ?_ ?_; rotate_left 1; (focus ((try simp only [go_sem, *]); exact nm))) | refine on_grow ?_))
    | (refine run_call rfl (y := ?_) ?_ ?_; rotate_left 1; (focus ((try simp only [go_sem, *]); exact nm)); refine call_pure (r := ?_) ?_ ?_ ?_; rotate_left 1; (focus (first | assumption | kernel_rfl)); (focus first | exact obj_kept _ k))
    | refine dr_nil ?_
    | refine dr_n rfl ?_
    | (refine dr_w' rfl rfl (v := ?_) ?_ ?_; rotate_left 1; (focus ((try simp only [go_sem, *]); exact nm)); (first | refine gw_tt ?_ | refine gw_ff ?_ | refine gw_tf ?_ | refine gw_ft ?_ | refine gw_tn (fun _ => ?_) (fun _ => ?_) | refine gw_fn (fun _ => ?_) (fun _ => ?_) | refine gw_tb (fun _ => ?_) (fun _ => ?_) | refine gw_fb (fun _ => ?_) (fun _ => ?_) | refine gw_u ?_))
    | (refine dr_ev rfl (x := ?_) (rd := ?_) ?_ ?_ ?_; rotate_left 2; (focus ((try simp only [go_sem, *]); exact nm)); (focus ((try simp only [go_sem, *]); exact nm)); (first | refine dn_nop ?_ | (refine dn_new (n := ?_) ?_ ?_; rotate_left 1; (focus ((try simp only [go_sem, *]); exact nm))) | (refine dn_put (y := ?_) ?_ ?_; rotate_left 1; (focus ((try simp only [go_sem, *]); exact nm)); refine dput_box (l' := ?_) ?_ ?_; rotate_left 1; (focus ((try simp only [go_sem, *]); exact nm))) | (refine dn_born (n := ?_) ?_ ?_; rotate_left 1; (focus ((try simp only [go_sem, *]); exact nm))) | refine dn_grow ?_))
    | (refine dr_call rfl (y := ?_) ?_ ?_; rotate_left 1; (focus ((try simp only [go_sem, *]); exact nm)); refine dcall_pure (r := ?_) ?_ ?_ ?_; rotate_left 1; (focus (first | assumption | kernel_rfl)); (focus first | exact obj_kept _ k))
    | (refine And.intro (by kernel_rfl : okAll _ = true) ?_)
    | refine pc_seq ?_
    | refine pc_region ?_
    | (refine pc_draw (by kernel_rfl) ?_)
    | refine pc_ret ?_
    | refine pc_skip ?_
    | refine pc_block ?_
    | refine pc_exit ?_
    | (refine pc_cond (v := ?_) ?_ ?_; rotate_left 1; (focus ((try simp only [go_sem, *]); exact nm)); (first | refine cd_t ?_ | refine cd_f ?_ | refine cd_n (fun _ => ?_) (fun _ => ?_) | refine cd_b (fun _ => ?_) (fun _ => ?_)))
    | refine th_normal ?_
    | refine th_ret ?_
    | refine th_exit ?_
    | refine th_pan ?_
    | refine bl_normal ?_
    | refine bl_exit ?_
    | refine bl_pass rfl ?_
    | refine bl_ret ?_
    | refine bl_pan ?_
    | (refine rt_ret (y := ?_) ?_ ?_; rotate_left 1; (focus ((try simp only [go_sem, *]); exact nm)); refine rs_some ?_)
    | (refine rt_normal (y := ?_) ?_ ?_; rotate_left 1; (focus ((try simp only [go_sem, *]); exact nm)); refine rs_some ?_))
    all_goals rename_i hc
    · exact ret_of (no 0 (by omega) hc).symm
    · exact again 1 ⟨by omega, up_to hs hc⟩ (by omega) (by (refine keepI ?_ ?_ <;> repeat' (first | exact ke_nil | exact kg_nil | refine ke_cons (by (try simp only [go_sem, *]); try rfl) (by simp only [go_sem, *]) ?_ | refine kg_box (by (try simp only [go_sem, *]); try rfl) (by omega) (by simp only [go_sem, *]) ?_ | refine kg_row (by (try simp only [go_sem, *]); try rfl) (by omega) (by simp only [go_sem, *]) ?_)))
  · have k := l3 1 (by omega)
    simp only [c1]
    repeat' (first
    | refine pops_nil ?_
    | refine pops_n rfl ?_
    | (refine pops_w' rfl rfl (v := ?_) ?_ ?_; rotate_left 1; (focus ((try simp only [go_sem, *]); exact nm)); (first | refine gw_tt ?_ | refine gw_ff ?_ | refine gw_tf ?_ | refine gw_ft ?_ | refine gw_tn (fun _ => ?_) (fun _ => ?_) | refine gw_fn (fun _ => ?_) (fun _ => ?_) | refine gw_tb (fun _ => ?_) (fun _ => ?_) | refine gw_fb (fun _ => ?_) (fun _ => ?_) | refine gw_u ?_))
    | (refine run_ev rfl rfl (x := ?_) ?_ ?_; rotate_left 1; (focus ((try simp only [go_sem, *]); exact nm)); (first | refine on_nop ?_ | (refine on_new (n := ?_) ?_ ?_; rotate_left 1; (focus ((try simp only [go_sem, *]); exact nm))) | (refine on_put (y := ?_) ?_ ?_; rotate_left 1; (focus ((try simp only [go_sem, *]); exact nm)); refine put_box (l' := ?_) ?_ ?_; rotate_left 1; (focus ((try simp only [go_sem, *]); exact nm))) | (refine on_born (n := ?_) ?_ ?_; rotate_left 1; (focus ((try simp only [go_sem, *]); exact nm))) | refine on_grow ?_))
    | (refine run_call rfl (y := ?_) ?_ ?_; rotate_left 1; (focus ((try simp only [go_sem, *]); exact nm)); refine call_pure (r := ?_) ?_ ?_ ?_; rotate_left 1; (focus (first | assumption | kernel_rfl)); (focus first | exact obj_kept _ k))
    | refine dr_nil ?_
    | refine dr_n rfl ?_
    | (refine dr_w' rfl rfl (v := ?_) ?_ ?_; rotate_left 1; (focus ((try simp only [go_sem, *]); exact nm)); (first | refine gw_tt ?_ | refine gw_ff ?_ | refine gw_tf ?_ | refine gw_ft ?_ | refine gw_tn (fun _ => ?_) (fun _ => ?_) | refine gw_fn (fun _ => ?_) (fun _ => ?_) | refine gw_tb (fun _ => ?_) (fun _ => ?_) | refine gw_fb (fun _ => ?_) (fun _ => ?_) | refine gw_u ?_))
    | (refine dr_ev rfl (x := ?_) (rd := ?_) ?_ ?_ ?_; rotate_left 2; (focus ((try simp only [go_sem, *]); exact nm)); (focus ((try simp only [go_sem, *]); exact nm)); (first | refine dn_nop ?_ | (refine dn_new (n := ?_) ?_ ?_; rotate_left 1; (focus ((try simp only [go_sem, *]); exact nm))) | (refine dn_put (y := ?_) ?_ ?_; rotate_left 1; (focus ((try simp only [go_sem, *]); exact nm)); refine dput_box (l' := ?_) ?_ ?_; rotate_left 1; (focus ((try simp only [go_sem, *]); exact nm))) | (refine dn_born (n := ?_) ?_ ?_; rotate_left 1; (focus ((try simp only [go_sem, *]); exact nm))) | refine dn_grow ?_))
    | (refine dr_call rfl (y := ?_) ?_ ?_; rotate_left 1; (focus ((try simp only [go_sem, *]); exact nm)); refine dcall_pure (r := ?_) ?_ ?_ ?_; rotate_left 1; (focus (first | assumption | kernel_rfl)); (focus first | exact obj_kept _ k))
    | (refine And.intro (by kernel_rfl : okAll _ = true) ?_)
    | refine pc_seq ?_
    | refine pc_region ?_
    | (refine pc_draw (by kernel_rfl) ?_)
    | refine pc_ret ?_
    | refine pc_skip ?_
    | refine pc_block ?_
    | refine pc_exit ?_
    | (refine pc_cond (v := ?_) ?_ ?_; rotate_left 1; (focus ((try simp only [go_sem, *]); exact nm)); (first | refine cd_t ?_ | refine cd_f ?_ | refine cd_n (fun _ => ?_) (fun _ => ?_) | refine cd_b (fun _ => ?_) (fun _ => ?_)))
    | refine th_normal ?_
    | refine th_ret ?_
    | refine th_exit ?_
    | refine th_pan ?_
    | refine bl_normal ?_
    | refine bl_exit ?_
    | refine bl_pass rfl ?_
    | refine bl_ret ?_
    | refine bl_pan ?_
    | (refine rt_ret (y := ?_) ?_ ?_; rotate_left 1; (focus ((try simp only [go_sem, *]); exact nm)); refine rs_some ?_)
    | (refine rt_normal (y := ?_) ?_ ?_; rotate_left 1; (focus ((try simp only [go_sem, *]); exact nm)); refine rs_some ?_))
    all_goals rename_i hc
    · exact ret_of (no 1 (by omega) hc).symm
    · exact again 2 ⟨by omega, up_to hs hc⟩ (by omega) (by (refine keepI ?_ ?_ <;> repeat' (first | exact ke_nil | exact kg_nil | refine ke_cons (by (try simp only [go_sem, *]); try rfl) (by simp only [go_sem, *]) ?_ | refine kg_box (by (try simp only [go_sem, *]); try rfl) (by omega) (by simp only [go_sem, *]) ?_ | refine kg_row (by (try simp only [go_sem, *]); try rfl) (by omega) (by simp only [go_sem, *]) ?_)))
  · have k := l3 2 (by omega)
    simp only [c2]
    repeat' (first
    | refine pops_nil ?_
    | refine pops_n rfl ?_
    | (refine pops_w' rfl rfl (v := ?_) ?_ ?_; rotate_left 1; (focus ((try simp only [go_sem, *]); exact nm)); (first | refine gw_tt ?_ | refine gw_ff ?_ | refine gw_tf ?_ | refine gw_ft ?_ | refine gw_tn (fun _ => ?_) (fun _ => ?_) | refine gw_fn (fun _ => ?_) (fun _ => ?_) | refine gw_tb (fun _ => ?_) (fun _ => ?_) | refine gw_fb (fun _ => ?_) (fun _ => ?_) | refine gw_u ?_))
    | (refine run_ev rfl rfl (x := ?_) ?_ ?_; rotate_left 1; (focus ((try simp only [go_sem, *]); exact nm)); (first | refine on_nop ?_ | (refine on_new (n := ?_) ?_ ?_; rotate_left 1; (focus ((try simp only [go_sem, *]); exact nm))) | (refine on_put (y := ?_) ?_ ?_; rotate_left 1; (focus ((try simp only [go_sem, *]); exact nm)); refine put_box (l' := ?_) ?_ ?_; rotate_left 1; (focus ((try simp only [go_sem, *]); exact nm))) | (refine on_born (n := ?_) ?_ ?_; rotate_left 1; (focus ((try simp only [go_sem, *]); exact nm))) | refine on_grow ?_))
    | (refine run_call rfl (y := ?_) ?_ ?_; rotate_left 1; (focus ((try simp only [go_sem, *]); exact nm)); refine call_pure (r := ?_) ?_ ?_ ?_; rotate_left 1; (focus (first | assumption | kernel_rfl)); (focus first | exact obj_kept _ k))
    | refine dr_nil ?_
    | refine dr_n rfl ?_
    | (refine dr_w' rfl rfl (v := ?_) ?_ ?_; rotate_left 1; (focus ((try simp only [go_sem, *]); exact nm)); (first | refine gw_tt ?_ | refine gw_ff ?_ | refine gw_tf ?_ | refine gw_ft ?_ | refine gw_tn (fun _ => ?_) (fun _ => ?_) | refine gw_fn (fun _ => ?_) (fun _ => ?_) | refine gw_tb (fun _ => ?_) (fun _ => ?_) | refine gw_fb (fun _ => ?_) (fun _ => ?_) | refine gw_u ?_))
    | (refine dr_ev rfl (x := ?_) (rd := ?_) ?_ ?_ ?_; rotate_left 2; (focus ((try simp only [go_sem, *]); exact nm)); (focus ((try simp only [go_sem, *]); exact nm)); (first | refine dn_nop ?_ | (refine dn_new (n := ?_) ?_ ?_; rotate_left 1; (focus ((try simp only [go_sem, *]); exact nm))) | (refine dn_put (y := ?_) ?_ ?_; rotate_left 1; (focus ((try simp only [go_sem, *]); exact nm)); refine dput_box (l' := ?_) ?_ ?_; rotate_left 1; (focus ((try simp only [go_sem, *]); exact nm))) | (refine dn_born (n := ?_) ?_ ?_; rotate_left 1; (focus ((try simp only [go_sem, *]); exact nm))) | refine dn_grow ?_))
    | (refine dr_call rfl (y := ?_) ?_ ?_; rotate_left 1; (focus ((try simp only [go_sem, *]); exact nm)); refine dcall_pure (r := ?_) ?_ ?_ ?_; rotate_left 1; (focus (first | assumption | kernel_rfl)); (focus first | exact obj_kept _ k))
    | (refine And.intro (by kernel_rfl : okAll _ = true) ?_)
    | refine pc_seq ?_
    | refine pc_region ?_
    | (refine pc_draw (by kernel_rfl) ?_)
    | refine pc_ret ?_
    | refine pc_skip ?_
    | refine pc_block ?_
    | refine pc_exit ?_
    | (refine pc_cond (v := ?_) ?_ ?_; rotate_left 1; (focus ((try simp only [go_sem, *]); exact nm)); (first | refine cd_t ?_ | refine cd_f ?_ | refine cd_n (fun _ => ?_) (fun _ => ?_) | refine cd_b (fun _ => ?_) (fun _ => ?_)))
    | refine th_normal ?_
    | refine th_ret ?_
    | refine th_exit ?_
    | refine th_pan ?_
    | refine bl_normal ?_
    | refine bl_exit ?_
    | refine bl_pass rfl ?_
    | refine bl_ret ?_
    | refine bl_pan ?_
    | (refine rt_ret (y := ?_) ?_ ?_; rotate_left 1; (focus ((try simp only [go_sem, *]); exact nm)); refine rs_some ?_)
    | (refine rt_normal (y := ?_) ?_ ?_; rotate_left 1; (focus ((try simp only [go_sem, *]); exact nm)); refine rs_some ?_))
    all_goals rename_i hc
    · exact ret_of (no 2 (by omega) hc).symm
    · exact again 3 ⟨by omega, up_to hs hc⟩ (by omega) (by (refine keepI ?_ ?_ <;> repeat' (first | exact ke_nil | exact kg_nil | refine ke_cons (by (try simp only [go_sem, *]); try rfl) (by simp only [go_sem, *]) ?_ | refine kg_box (by (try simp only [go_sem, *]); try rfl) (by omega) (by simp only [go_sem, *]) ?_ | refine kg_row (by (try simp only [go_sem, *]); try rfl) (by omega) (by simp only [go_sem, *]) ?_)))
  · have k := l3 3 (by omega)
    simp only [c3]
    repeat' (first
    | refine pops_nil ?_
    | refine pops_n rfl ?_
    | (refine pops_w' rfl rfl (v := ?_) ?_ ?_; rotate_left 1; (focus ((try simp only [go_sem, *]); exact nm)); (first | refine gw_tt ?_ | refine gw_ff ?_ | refine gw_tf ?_ | refine gw_ft ?_ | refine gw_tn (fun _ => ?_) (fun _ => ?_) | refine gw_fn (fun _ => ?_) (fun _ => ?_) | refine gw_tb (fun _ => ?_) (fun _ => ?_) | refine gw_fb (fun _ => ?_) (fun _ => ?_) | refine gw_u ?_))
    | (refine run_ev rfl rfl (x := ?_) ?_ ?_; rotate_left 1; (focus ((try simp only [go_sem, *]); exact nm)); (first | refine on_nop ?_ | (refine on_new (n := ?_) ?_ ?_; rotate_left 1; (focus ((try simp only [go_sem, *]); exact nm))) | (refine on_put (y := ?_) ?_ ?_; rotate_left 1; (focus ((try simp only [go_sem, *]); exact nm)); refine put_box (l' := ?_) ?_ ?_; rotate_left 1; (focus ((try simp only [go_sem, *]); exact nm))) | (refine on_born (n := ?_) ?_ ?_; rotate_left 1; (focus ((try simp only [go_sem, *]); exact nm))) | refine on_grow ?_))
    | (refine run_call rfl (y := ?_) ?_ ?_; rotate_left 1; (focus ((try simp only [go_sem, *]); exact nm)); refine call_pure (r := ?_) ?_ ?_ ?_; rotate_left 1; (focus (first | assumption | kernel_rfl)); (focus first | exact obj_kept _ k))
    | refine dr_nil ?_
    | refine dr_n rfl ?_
    | (refine dr_w' rfl rfl (v := ?_) ?_ ?_; rotate_left 1; (focus ((try simp only [go_sem, *]); exact nm)); (first | refine gw_tt ?_ | refine gw_ff ?_ | refine gw_tf ?_ | refine gw_ft ?_ | refine gw_tn (fun _ => ?_) (fun _ => ?_) | refine gw_fn (fun _ => ?_) (fun _ => ?_) | refine gw_tb (fun _ => ?_) (fun _ => ?_) | refine gw_fb (fun _ => ?_) (fun _ => ?_) | refine gw_u ?_))
    | (refine dr_ev rfl (x := ?_) (rd := ?_) ?_ ?_ ?_; rotate_left 2; (focus ((try simp only [go_sem, *]); exact nm)); (focus ((try simp only [go_sem, *]); exact nm)); (first | refine dn_nop ?_ | (refine dn_new (n := ?_) ?_ ?_; rotate_left 1; (focus ((try simp only [go_sem, *]); exact nm))) | (refine dn_put (y := ?_) ?_ ?_; rotate_left 1; (focus ((try simp only [go_sem, *]); exact nm)); refine dput_box (l' := ?_) ?_ ?_; rotate_left 1; (focus ((try simp only [go_sem, *]); exact nm))) | (refine dn_born (n := ?_) ?_ ?_; rotate_left 1; (focus ((try simp only [go_sem, *]); exact nm))) | refine dn_grow ?_))
    | (refine dr_call rfl (y := ?_) ?_ ?_; rotate_left 1; (focus ((try simp only [go_sem, *]); exact nm)); refine dcall_pure (r := ?_) ?_ ?_ ?_; rotate_left 1; (focus (first | assumption | kernel_rfl)); (focus first | exact obj_kept _ k))
    | (refine And.intro (by kernel_rfl : okAll _ = true) ?_)
    | refine pc_seq ?_
    | refine pc_region ?_
    | (refine pc_draw (by kernel_rfl) ?_)
    | refine pc_ret ?_
    | refine pc_skip ?_
    | refine pc_block ?_
    | refine pc_exit ?_
    | (refine pc_cond (v := ?_) ?_ ?_; rotate_left 1; (focus ((try simp only [go_sem, *]); exact nm)); (first | refine cd_t ?_ | refine cd_f ?_ | refine cd_n (fun _ => ?_) (fun _ => ?_) | refine cd_b (fun _ => ?_) (fun _ => ?_)))
    | refine th_normal ?_
    | refine th_ret ?_
    | refine th_exit ?_
    | refine th_pan ?_
    | refine bl_normal ?_
    | refine bl_exit ?_
    | refine bl_pass rfl ?_
    | refine bl_ret ?_
    | refine bl_pan ?_
    | (refine rt_ret (y := ?_) ?_ ?_; rotate_left 1; (focus ((try simp only [go_sem, *]); exact nm)); refine rs_some ?_)
    | (refine rt_normal (y := ?_) ?_ ?_; rotate_left 1; (focus ((try simp only [go_sem, *]); exact nm)); refine rs_some ?_))
    all_goals rename_i hc
    · exact ret_of (no 3 (by omega) hc).symm
    · exact again 4 ⟨by omega, up_to hs hc⟩ (by omega) (by (refine keepI ?_ ?_ <;> repeat' (first | exact ke_nil | exact kg_nil | refine ke_cons (by (try simp only [go_sem, *]); try rfl) (by simp only [go_sem, *]) ?_ | refine kg_box (by (try simp only [go_sem, *]); try rfl) (by omega) (by simp only [go_sem, *]) ?_ | refine kg_row (by (try simp only [go_sem, *]); try rfl) (by omega) (by simp only [go_sem, *]) ?_)))
  · have hall : allB 4 (labsKept o.thread) = true := allB_true hs
    simp only [c4]
    have hL : kept o.thread.clear = true → Pure Try.prog 134 [.sl (o.label.map Pr.enc), .sl (o.thread.clear.map Pr.enc)] (.bool (labLeq o.label o.thread.clear)) := fun h => label_leq _ _ (by have := kept_len h; omega)
    repeat' (first
    | refine pops_nil ?_
    | refine pops_n rfl ?_
    | (refine pops_w' rfl rfl (v := ?_) ?_ ?_; rotate_left 1; (focus ((try simp only [go_sem, *]); exact nm)); (first | refine gw_tt ?_ | refine gw_ff ?_ | refine gw_tf ?_ | refine gw_ft ?_ | refine gw_tn (fun _ => ?_) (fun _ => ?_) | refine gw_fn (fun _ => ?_) (fun _ => ?_) | refine gw_tb (fun _ => ?_) (fun _ => ?_) | refine gw_fb (fun _ => ?_) (fun _ => ?_) | refine gw_u ?_))
    | (refine run_ev rfl rfl (x := ?_) ?_ ?_; rotate_left 1; (focus ((try simp only [go_sem, *]); exact nm)); (first | refine on_nop ?_ | (refine on_new (n := ?_) ?_ ?_; rotate_left 1; (focus ((try simp only [go_sem, *]); exact nm))) | (refine on_put (y := ?_) ?_ ?_; rotate_left 1; (focus ((try simp only [go_sem, *]); exact nm)); refine put_box (l' := ?_) ?_ ?_; rotate_left 1; (focus ((try simp only [go_sem, *]); exact nm))) | (refine on_born (n := ?_) ?_ ?_; rotate_left 1; (focus ((try simp only [go_sem, *]); exact nm))) | refine on_grow ?_))
    | (refine run_call rfl (y := ?_) ?_ ?_; rotate_left 1; (focus ((try simp only [go_sem, *]); exact nm)); refine call_pure (r := ?_) ?_ ?_ ?_; rotate_left 1; (focus (first | assumption | kernel_rfl)); (focus first | exact obj_kept _ l1 | exact hL (by assumption) | exact serial_fit _))
    | refine dr_nil ?_
    | refine dr_n rfl ?_
    | (refine dr_w' rfl rfl (v := ?_) ?_ ?_; rotate_left 1; (focus ((try simp only [go_sem, *]); exact nm)); (first | refine gw_tt ?_ | refine gw_ff ?_ | refine gw_tf ?_ | refine gw_ft ?_ | refine gw_tn (fun _ => ?_) (fun _ => ?_) | refine gw_fn (fun _ => ?_) (fun _ => ?_) | refine gw_tb (fun _ => ?_) (fun _ => ?_) | refine gw_fb (fun _ => ?_) (fun _ => ?_) | refine gw_u ?_))
    | (refine dr_ev rfl (x := ?_) (rd := ?_) ?_ ?_ ?_; rotate_left 2; (focus ((try simp only [go_sem, *]); exact nm)); (focus ((try simp only [go_sem, *]); exact nm)); (first | refine dn_nop ?_ | (refine dn_new (n := ?_) ?_ ?_; rotate_left 1; (focus ((try simp only [go_sem, *]); exact nm))) | (refine dn_put (y := ?_) ?_ ?_; rotate_left 1; (focus ((try simp only [go_sem, *]); exact nm)); refine dput_box (l' := ?_) ?_ ?_; rotate_left 1; (focus ((try simp only [go_sem, *]); exact nm))) | (refine dn_born (n := ?_) ?_ ?_; rotate_left 1; (focus ((try simp only [go_sem, *]); exact nm))) | refine dn_grow ?_))
    | (refine dr_call rfl (y := ?_) ?_ ?_; rotate_left 1; (focus ((try simp only [go_sem, *]); exact nm)); refine dcall_pure (r := ?_) ?_ ?_ ?_; rotate_left 1; (focus (first | assumption | kernel_rfl)); (focus first | exact obj_kept _ l1 | exact hL (by assumption) | exact serial_fit _))
    | (refine And.intro (by kernel_rfl : okAll _ = true) ?_)
    | refine pc_seq ?_
    | refine pc_region ?_
    | (refine pc_draw (by kernel_rfl) ?_)
    | refine pc_ret ?_
    | refine pc_skip ?_
    | refine pc_block ?_
    | refine pc_exit ?_
    | (refine pc_cond (v := ?_) ?_ ?_; rotate_left 1; (focus ((try simp only [go_sem, *]); exact nm)); (first | refine cd_t ?_ | refine cd_f ?_ | refine cd_n (fun _ => ?_) (fun _ => ?_) | refine cd_b (fun _ => ?_) (fun _ => ?_)))
    | refine th_normal ?_
    | refine th_ret ?_
    | refine th_exit ?_
    | refine th_pan ?_
    | refine bl_normal ?_
    | refine bl_exit ?_
    | refine bl_pass rfl ?_
    | refine bl_ret ?_
    | refine bl_pan ?_
    | (refine rt_ret (y := ?_) ?_ ?_; rotate_left 1; (focus ((try simp only [go_sem, *]); exact nm)); refine rs_some ?_)
    | (refine rt_normal (y := ?_) ?_ ?_; rotate_left 1; (focus ((try simp only [go_sem, *]); exact nm)); refine rs_some ?_))
    all_goals (refine ret_of ?_; unfold thFitO; simp only [*, Bool.not_true, Bool.not_false, Bool.and_true, Bool.true_and, Bool.and_false, Bool.false_and, Bool.or_true, Bool.true_or, Bool.or_false, Bool.false_or, Bool.and_self, Bool.or_self, decide_true, decide_false, Bool.not_not, if_true, if_false, Bool.false_eq_true, eq_self])
end Go.Proofs.Ytklpedooijlnlaa
